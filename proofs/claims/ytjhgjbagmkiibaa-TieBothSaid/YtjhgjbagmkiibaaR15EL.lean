/-
  Ties: what holds of all ties that were made; what Link, Unlink, Gone come to.
-/
import Derived.Test.YtjhgjbagmkiibaaR15ED
section
namespace Go.Proofs.Ytjhgjbagmkiibaa.E
open Go.Lg Go.Sort
set_option maxRecDepth 100000
set_option linter.unusedVariables false
set_option linter.unusedSimpArgs false
structure TieInv (L : List PR.T) (M : List TI.T) : Prop where
  nd : L.Nodup
  uq : Uniq M
  lk : ∀ p ∈ L, mayP p.1 = true ∧ mayP p.2.1 = true ∧ ltD p.1 p.2.1 = true
  mn : ∀ y ∈ M, (1 ≤ y.1 ∧ y.1 ≤ 4611686018427387903) ∧ mayP y.2.1 = true ∧ mayP y.2.2.1 = true
  sz : (L.length : Int) + (M.length : Int) ≤ 1024
theorem inv_nil : TieInv [] [] := ⟨List.nodup_nil, List.nodup_nil, fun _ h => (by cases h), fun _ h => (by cases h), by decide⟩
theorem may_okD {a : PD.T} (h : mayP a = true) : okD a = true := by
  have := may_is h
  exact decide_eq_true ⟨this.1, this.2.1⟩
theorem TieInv.ok {L : List PR.T} {M : List TI.T} (h : TieInv L M) : okTies L M = true := by
  refine okTies_of ?_ h.nd h.uq (by have := h.sz; omega)
  rw [List.all_eq_true]
  intro p hp
  have := h.lk p hp
  unfold okL
  rw [may_okD this.1, may_okD this.2.1]
  rfl
/-! ### How two stand -/
theorem eqPD {a b : PD.T} : eqb PD a b = true ↔ a = b := eqb_iff (s := PD) rfl
theorem neqPD {a b : PD.T} : eqb PD a b = false ↔ a ≠ b := by
  rw [← Bool.not_eq_true, eqPD]
theorem ord_gt {a b : PD.T} : 0 < ordP a b ↔ ltD b a = true := by
  unfold ordP cmpP ltD ltP
  dsimp only
  rw [decide_eq_true_eq]
  split
  · omega
  · split
    · omega
    · split <;> omega
theorem pair_lt {a b : PD.T} (h : ltD a b = true) : pairOf a b = (a, (b, ())) ∧ pairOf b a = (a, (b, ())) := by
  refine ⟨if_neg fun e => ?_, if_pos (ord_gt.2 h)⟩
  have := ord_gt.1 e
  have h2 := swoD.trans _ _ _ h this
  rw [swoD.irrefl] at h2; cases h2
theorem lt_or {a b : PD.T} (h : a ≠ b) : ltD a b = true ∨ ltD b a = true := by
  cases h1 : ltD a b with
  | true => exact .inl rfl
  | false =>
    cases h2 : ltD b a with
    | true => exact .inr rfl
    | false => exact absurd (antiD _ _ h1 h2) h
theorem pair_ord {a b : PD.T} (h : a ≠ b) : ltD (pairOf a b).1 (pairOf a b).2.1 = true := by
  rcases lt_or h with e | e
  · rw [(pair_lt e).1]; exact e
  · rw [(pair_lt e).2]; exact e
theorem pair_comm {a b : PD.T} (h : a ≠ b) : pairOf a b = pairOf b a := by
  rcases lt_or h with e | e
  · rw [(pair_lt e).1, (pair_lt e).2]
  · rw [(pair_lt e).1, (pair_lt e).2]
theorem pair_is {p : PR.T} {a b : PD.T} (ho : ltD p.1 p.2.1 = true) (h : (p.1 = a ∧ p.2.1 = b) ∨ (p.2.1 = a ∧ p.1 = b)) : p = pairOf a b := by
  obtain ⟨x, y, u⟩ := p
  rcases h with ⟨rfl, rfl⟩ | ⟨rfl, rfl⟩
  · exact (pair_lt ho).1.symm
  · exact (pair_lt ho).2.symm
theorem pair_has (a b : PD.T) : ((pairOf a b).1 = a ∧ (pairOf a b).2.1 = b) ∨ ((pairOf a b).2.1 = a ∧ (pairOf a b).1 = b) := by
  unfold pairOf
  split
  · exact .inr ⟨rfl, rfl⟩
  · exact .inl ⟨rfl, rfl⟩
theorem ne_of_lt {a b : PD.T} (h : ltD a b = true) : a ≠ b := by
  rintro rfl
  rw [swoD.irrefl] at h; cases h
theorem mem_lnkOf {L : List PR.T} {a b : PD.T} (ho : ∀ p ∈ L, ltD p.1 p.2.1 = true) : b ∈ lnkOf L a ↔ a ≠ b ∧ pairOf a b ∈ L := by
  constructor
  · intro h
    obtain ⟨p, hp, h⟩ := List.mem_filterMap.1 h
    have hne := ne_of_lt (ho p hp)
    split at h
    · rename_i e; cases h
      have e := eqPD.1 e
      refine ⟨by rw [← e]; exact hne, ?_⟩
      rw [← pair_is (ho p hp) (.inl ⟨e, rfl⟩)]; exact hp
    · split at h
      · rename_i e; cases h
        have e := eqPD.1 e
        refine ⟨by rw [← e]; exact hne.symm, ?_⟩
        rw [← pair_is (ho p hp) (.inr ⟨e, rfl⟩)]; exact hp
      · cases h
  · rintro ⟨hne, hp⟩
    refine List.mem_filterMap.2 ⟨_, hp, ?_⟩
    rcases pair_has a b with ⟨e1, e2⟩ | ⟨e1, e2⟩
    · rw [if_pos (eqPD.2 e1), e2]
    · rw [if_neg (by rw [eqPD, e2]; exact hne.symm), if_pos (eqPD.2 e1), e2]
theorem mem_links {L : List PR.T} {a b : PD.T} (ho : ∀ p ∈ L, ltD p.1 p.2.1 = true) : b ∈ isort ltD (lnkOf L a) ↔ a ≠ b ∧ pairOf a b ∈ L := by
  rw [(isort_perm ltD _).mem_iff, mem_lnkOf ho]
theorem mem_ldel {L : List PR.T} {x y : PR.T} : y ∈ ldel L x ↔ y ∈ L ∧ x ≠ y := by
  unfold ldel
  rw [List.mem_filter, Bool.not_eq_true', ← Bool.not_eq_true, eqPR_iff]
theorem ldel_len {L : List PR.T} (x : PR.T) : (ldel L x).length ≤ L.length := List.length_filter_le _ _
theorem mem_lins {L : List PR.T} {x y : PR.T} : y ∈ lins L x ↔ y ∈ L ∨ y = x := by
  unfold lins
  rw [List.mem_append, mem_ldel, List.mem_singleton]
  constructor
  · rintro (h | h)
    · exact .inl h.1
    · exact .inr h
  · rintro (h | h)
    · by_cases e : x = y
      · exact .inr e.symm
      · exact .inl ⟨h, e⟩
    · exact .inr h
theorem lins_nd {L : List PR.T} {x : PR.T} (h : L.Nodup) : (lins L x).Nodup := by
  unfold lins
  refine List.nodup_append.2 ⟨h.filter _, by simp, ?_⟩
  rintro y hy z hz rfl
  rw [List.mem_singleton] at hz
  subst hz
  exact (mem_ldel.1 hy).2 rfl
theorem lins_len {L : List PR.T} (x : PR.T) : (lins L x).length ≤ L.length + 1 := by
  unfold lins
  have := ldel_len (L := L) x
  rw [List.length_append]
  simp only [List.length_cons, List.length_nil]
  omega
theorem mem_mdel {M : List TI.T} {r : Int} {y : TI.T} : y ∈ mdel M r ↔ y ∈ M ∧ r ≠ y.1 := by
  unfold mdel
  rw [List.mem_filter, Bool.not_eq_true', ← Bool.not_eq_true, beq_iff_eq]
theorem mdel_uq {M : List TI.T} (r : Int) (h : Uniq M) : Uniq (mdel M r) := h.sublist (List.filter_sublist.map _)
theorem mem_mins {M : List TI.T} {r : Int} {w : PR.T} {y : TI.T} : y ∈ mins M r w ↔ (y ∈ M ∧ r ≠ y.1) ∨ y = ((r, w) : TI.T) := by
  unfold mins
  rw [List.mem_append, mem_mdel, List.mem_singleton]
theorem mins_uq {M : List TI.T} {r : Int} {w : PR.T} (h : Uniq M) : Uniq (mins M r w) := by
  unfold mins Uniq
  rw [List.map_append]
  refine List.nodup_append.2 ⟨mdel_uq r h, by simp, ?_⟩
  rintro x hx z hz rfl
  obtain ⟨y, hy, rfl⟩ := List.mem_map.1 hx
  simp only [List.map_cons, List.map_nil, List.mem_singleton] at hz
  exact (mem_mdel.1 hy).2 hz.symm
theorem mins_len {M : List TI.T} (r : Int) (w : PR.T) : (mins M r w).length ≤ M.length + 1 := by
  unfold mins mdel
  have := List.length_filter_le (fun y : TI.T => !(r == y.1)) M
  rw [List.length_append]
  simp only [List.length_cons, List.length_nil]
  omega
/-! ### Link -/
theorem TieInv.ord {L : List PR.T} {M : List TI.T} (h : TieInv L M) : ∀ p ∈ L, ltD p.1 p.2.1 = true := fun p hp => (h.lk p hp).2.2
theorem may_pair {a b : PD.T} (ha : mayP a = true) (hb : mayP b = true) : mayP (pairOf a b).1 = true ∧ mayP (pairOf a b).2.1 = true := by
  unfold pairOf
  split
  · exact ⟨hb, ha⟩
  · exact ⟨ha, hb⟩
theorem inv_link {L : List PR.T} {M : List TI.T} (h : TieInv L M) (a b : PD.T) : TieInv (linkL L M a b) M := by
  unfold linkL
  cases hb : badP a b with
  | true => rw [if_pos rfl]; exact h
  | false =>
    rw [if_neg (by simp)]
    split
    · exact h
    · split
      · exact h
      · rename_i hs
        obtain ⟨h1, h2, h3⟩ := bad_is hb
        have h3 := neqPD.1 h3
        refine ⟨lins_nd h.nd, h.uq, ?_, h.mn, ?_⟩
        · intro p hp
          rcases mem_lins.1 hp with hp | rfl
          · exact h.lk p hp
          · exact ⟨(may_pair h1 h2).1, (may_pair h1 h2).2, pair_ord h3⟩
        · have := lins_len (L := L) (pairOf a b)
          omega
theorem link_is {L : List PR.T} {M : List TI.T} {a b : PD.T} (e : linkE L M a b = 0) : a ≠ b ∧ pairOf a b ∈ linkL L M a b := by
  unfold linkE at e
  unfold linkL
  cases hb : badP a b with
  | true => rw [hb, if_pos rfl] at e; cases e
  | false =>
    refine ⟨neqPD.1 (bad_is hb).2.2, ?_⟩
    rw [hb, if_neg (by simp)] at e
    rw [if_neg (by simp)]
    split
    · rename_i hm; exact (memB_iff (s := PR) rfl).1 hm
    · rename_i hm
      rw [if_neg hm] at e
      split at e
      · cases e
      · rename_i hs
        rw [if_neg hs]
        exact mem_lins.2 (.inr rfl)
theorem link_in1 {L : List PR.T} {M : List TI.T} {a b : PD.T} (h : TieInv L M) (e : linkE L M a b = 0) : memB PD b (isort ltD (lnkOf (linkL L M a b) a)) = true := by
  obtain ⟨h1, h2⟩ := link_is e
  exact (memB_iff (s := PD) rfl).2 ((mem_links (inv_link h a b).ord).2 ⟨h1, h2⟩)
theorem link_in2 {L : List PR.T} {M : List TI.T} {a b : PD.T} (h : TieInv L M) (e : linkE L M a b = 0) : memB PD a (isort ltD (lnkOf (linkL L M a b) b)) = true := by
  obtain ⟨h1, h2⟩ := link_is e
  exact (memB_iff (s := PD) rfl).2 ((mem_links (inv_link h a b).ord).2 ⟨h1.symm, by rw [← pair_comm h1]; exact h2⟩)
theorem inv_unlink {L : List PR.T} {M : List TI.T} (h : TieInv L M) (a b : PD.T) : TieInv (unlinkL L a b) M := by
  unfold unlinkL
  split
  · exact h
  · split
    · have := ldel_len (L := L) (pairOf a b)
      exact ⟨h.nd.filter _, h.uq, fun p hp => h.lk p (mem_ldel.1 hp).1, h.mn, by have := h.sz; omega⟩
    · exact h
theorem unlink_is {L : List PR.T} {a b : PD.T} (e : unlinkE L a b = 0) : a ≠ b ∧ pairOf a b ∉ unlinkL L a b := by
  unfold unlinkE at e
  unfold unlinkL
  cases hb : badP a b with
  | true => rw [hb, if_pos rfl] at e; cases e
  | false =>
    refine ⟨neqPD.1 (bad_is hb).2.2, ?_⟩
    rw [hb, if_neg (by simp)] at e
    rw [if_neg (by simp)]
    split
    · rename_i hm; exact fun h => (mem_ldel.1 h).2 rfl
    · rename_i hm
      rw [if_neg hm] at e; cases e
theorem unlink_in1 {L : List PR.T} {M : List TI.T} {a b : PD.T} (h : TieInv L M) (e : unlinkE L a b = 0) : memB PD b (isort ltD (lnkOf (unlinkL L a b) a)) = false := by
  obtain ⟨h1, h2⟩ := unlink_is e
  rw [← Bool.not_eq_true]
  exact fun hm => h2 ((mem_links (inv_unlink h a b).ord).1 ((memB_iff (s := PD) rfl).1 hm)).2
theorem unlink_in2 {L : List PR.T} {M : List TI.T} {a b : PD.T} (h : TieInv L M) (e : unlinkE L a b = 0) : memB PD a (isort ltD (lnkOf (unlinkL L a b) b)) = false := by
  obtain ⟨h1, h2⟩ := unlink_is e
  rw [← Bool.not_eq_true]
  exact fun hm => h2 (by rw [pair_comm h1]; exact ((mem_links (inv_unlink h a b).ord).1 ((memB_iff (s := PD) rfl).1 hm)).2)
/-! ### Monitor, Demon -/
theorem monX_is {M : List TI.T} {r : Int} {a b : PD.T} (h : monX M r a b = false) : mayP a = true ∧ mayP b = true ∧ 1 ≤ r ∧ r ≤ 4611686018427387903 ∧ keyB r M = false := by
  unfold monX at h
  split at h
  · split at h
    · split at h
      · split at h
        · exact ⟨‹_›, ‹_›, ‹_›, ‹_›, h⟩
        · cases h
      · cases h
    · cases h
  · cases h
theorem inv_mon {L : List PR.T} {M : List TI.T} (h : TieInv L M) (r : Int) (a b : PD.T) : TieInv L (monM L M r a b) := by
  unfold monM
  cases hb : monX M r a b with
  | true => rw [if_pos rfl]; exact h
  | false =>
    rw [if_neg (by simp)]
    split
    · exact h
    · rename_i hs
      obtain ⟨h1, h2, h3, h4, h5⟩ := monX_is hb
      refine ⟨h.nd, mins_uq h.uq, h.lk, ?_, ?_⟩
      · intro y hy
        rcases mem_mins.1 hy with hy | rfl
        · exact h.mn y hy.1
        · exact ⟨⟨h3, h4⟩, h1, h2⟩
      · have := mins_len (M := M) r (a, (b, ()))
        omega
/-! ### Gone -/
theorem delsL_is {a : PD.T} : ∀ {L : List PR.T} (ds : List PD.T), delsL L a ds = L.filter fun x => ds.all fun b => !eqb PR (pairOf a b) x
  | L, [] => by
    exact (List.filter_eq_self.2 fun _ _ => rfl).symm
  | L, b :: ds => by
    have := delsL_is (a := a) (L := ldel L (pairOf a b)) ds
    show delsL (ldel L (pairOf a b)) a ds = _
    rw [this]
    unfold ldel
    rw [List.filter_filter]
    refine List.filter_congr fun x _ => ?_
    rw [List.all_cons, Bool.and_comm]
theorem goneL_is {L : List PR.T} {M : List TI.T} (h : TieInv L M) (a : PD.T) : goneL L a = L.filter fun p => !(eqb PD p.1 a || eqb PD p.2.1 a) := by
  unfold goneL
  rw [delsL_is]
  refine List.filter_congr fun x hx => ?_
  rw [Bool.eq_iff_iff, List.all_eq_true, Bool.not_eq_true', Bool.or_eq_false_iff]
  have ho := h.ord x hx
  constructor
  · intro hb
    constructor
    · rw [neqPD]
      intro e
      have := hb x.2.1 ((mem_links h.ord).2 ⟨by rw [← e]; exact ne_of_lt ho, by rw [← pair_is ho (.inl ⟨e, rfl⟩)]; exact hx⟩)
      rw [← pair_is ho (.inl ⟨e, rfl⟩), eqb_refl rfl] at this
      cases this
    · rw [neqPD]
      intro e
      have := hb x.1 ((mem_links h.ord).2 ⟨by rw [← e]; exact (ne_of_lt ho).symm, by rw [← pair_is ho (.inr ⟨e, rfl⟩)]; exact hx⟩)
      rw [← pair_is ho (.inr ⟨e, rfl⟩), eqb_refl rfl] at this
      cases this
  · rintro ⟨h1, h2⟩ b hb
    rw [Bool.not_eq_true', ← Bool.not_eq_true, eqPR_iff]
    rintro rfl
    rcases pair_has a b with ⟨e1, e2⟩ | ⟨e1, e2⟩
    · exact neqPD.1 h1 e1
    · exact neqPD.1 h2 e1
theorem delsM_is : ∀ {M : List TI.T} (rs : List Int), delsM M rs = M.filter fun y => rs.all fun r => !(r == y.1)
  | M, [] => by
    exact (List.filter_eq_self.2 fun _ _ => rfl).symm
  | M, r :: rs => by
    have := delsM_is (M := mdel M r) rs
    show delsM (mdel M r) rs = _
    rw [this]
    unfold mdel
    rw [List.filter_filter]
    refine List.filter_congr fun x _ => ?_
    rw [List.all_cons, Bool.and_comm]
theorem mem_refs {q : PR.T → Bool} {M : List TI.T} {r : Int} : r ∈ isort ltI (refOf q M) ↔ ∃ y ∈ M, q y.2 = true ∧ y.1 = r := by
  rw [(isort_perm ltI _).mem_iff]
  unfold refOf
  rw [List.mem_map]
  constructor
  · rintro ⟨y, hy, rfl⟩
    exact ⟨y, (List.mem_filter.1 hy).1, (List.mem_filter.1 hy).2, rfl⟩
  · rintro ⟨y, h1, h2, rfl⟩
    exact ⟨y, List.mem_filter.2 ⟨h1, h2⟩, rfl⟩
theorem goneM_is {M : List TI.T} (h : Uniq M) (a : PD.T) : goneM M a = M.filter fun y => !(q36 a y.2) := by
  unfold goneM
  rw [delsM_is]
  refine List.filter_congr fun x hx => ?_
  rw [Bool.eq_iff_iff, List.all_eq_true, Bool.not_eq_true']
  constructor
  · intro hb
    rw [← Bool.not_eq_true]
    intro hq
    have := hb x.1 (mem_refs.2 ⟨x, hx, hq, rfl⟩)
    simp at this
  · intro hq r hr
    obtain ⟨y, hy, h1, h2⟩ := mem_refs.1 hr
    rw [Bool.not_eq_true', ← Bool.not_eq_true, beq_iff_eq]
    intro e
    have : y = x := inj_of_nodup h y hy x hx (h2.trans e)
    subst this
    rw [hq] at h1; cases h1
theorem inv_gone {L : List PR.T} {M : List TI.T} (h : TieInv L M) (a : PD.T) : TieInv (goneL L a) (goneM M a) := by
  rw [goneL_is h, goneM_is h.uq]
  have h1 := List.length_filter_le (fun p : PR.T => !(eqb PD p.1 a || eqb PD p.2.1 a)) L
  have h2 := List.length_filter_le (fun y : TI.T => !(q36 a y.2)) M
  have := h.sz
  exact ⟨h.nd.filter _, h.uq.sublist (List.filter_sublist.map _), fun p hp => h.lk p (List.mem_filter.1 hp).1, fun y hy => h.mn y (List.mem_filter.1 hy).1, by omega⟩
theorem gone_links {L : List PR.T} {M : List TI.T} (h : TieInv L M) (a : PD.T) : isort ltD (lnkOf (goneL L a) a) = [] := by
  have : lnkOf (goneL L a) a = [] := by
    rw [goneL_is h]
    unfold lnkOf
    rw [List.filterMap_eq_nil_iff]
    intro p hp
    have := (List.mem_filter.1 hp).2
    simp only [Bool.not_eq_true', Bool.or_eq_false_iff] at this
    rw [this.1, this.2]
    rfl
  rw [this]; rfl
theorem gone_wat {M : List TI.T} (h : Uniq M) (a : PD.T) : watOf (goneM M a) a = [] := by
  have : refOf (q37 a) (goneM M a) = [] := by
    rw [goneM_is h]
    unfold refOf
    rw [List.filter_filter, List.filter_eq_nil_iff.2]
    · rfl
    · intro y _ hy
      simp only [Bool.and_eq_true, Bool.not_eq_true'] at hy
      unfold q36 at hy
      unfold q37 at hy
      rw [hy.1, Bool.or_true] at hy
      cases hy.2
  unfold watOf
  rw [this]; rfl
/-! ### What is told -/
theorem told_fst (M : List TI.T) (r : Int) : (toldOf M r).1 = r := by
  unfold toldOf
  split <;> rfl
theorem told_of {M : List TI.T} (h : Uniq M) {y : TI.T} (hy : y ∈ M) : toldOf M y.1 = y := by
  obtain ⟨w, h1, h2⟩ := mkey (ms := M) (r := y.1) h (List.any_eq_true.2 ⟨y, hy, by simp⟩)
  rw [toldOf_is h1]
  exact inj_of_nodup h _ h2 _ hy rfl
theorem told_mem {M : List TI.T} (h : Uniq M) (q : PR.T → Bool) {x : TT5.T} : x ∈ (isort ltI (refOf q M)).map (toldOf M) ↔ x ∈ M ∧ q x.2 = true := by
  rw [List.mem_map]
  constructor
  · rintro ⟨r, hr, rfl⟩
    obtain ⟨y, hy, h1, rfl⟩ := mem_refs.1 hr
    rw [told_of h hy]
    exact ⟨hy, h1⟩
  · rintro ⟨hx, hq⟩
    exact ⟨x.1, mem_refs.2 ⟨x, hx, hq, rfl⟩, told_of h hx⟩
theorem toldG_is {M : List TI.T} (h : Uniq M) {a : PD.T} {x : TT5.T} (hx : x ∈ toldG M a) : x.2.2.1 = a ∧ x.2.1 ≠ a := by
  have := ((told_mem h _).1 hx).2
  unfold q35 at this
  simp only [Bool.and_eq_true, Bool.not_eq_true'] at this
  have e := eqPD.1 this.1
  refine ⟨e, fun e2 => ?_⟩
  have h2 := this.2
  rw [← Bool.not_eq_true, eqPR_iff] at h2
  obtain ⟨r, x, y, u⟩ := x
  cases e; cases e2
  exact h2 rfl
theorem refs_sorted {q : PR.T → Bool} {M : List TI.T} (h : Uniq M) : (isort ltI (refOf q M)).Pairwise (· < ·) := by
  have h1 := isort_sorted swoI (refOf q M)
  have h2 : (isort ltI (refOf q M)).Nodup := by
    rw [(isort_perm ltI _).nodup_iff]
    exact h.sublist (List.filter_sublist.map _)
  exact (h1.and h2).imp fun {a b} hab => by
    have h3 : ¬ b < a := by simpa [ltI] using hab.1
    have := hab.2
    omega
theorem told_sorted {q : PR.T → Bool} {M : List TI.T} (h : Uniq M) : ((isort ltI (refOf q M)).map (toldOf M)).Pairwise fun x y => x.1 < y.1 := by
  rw [List.pairwise_map]
  exact (refs_sorted h).imp fun {a b} hab => by rw [told_fst, told_fst]; exact hab
theorem pw_get {α : Type} {R : α → α → Prop} {l : List α} (h : l.Pairwise R) {i j : Nat} {x y : α} (hij : i < j) (hx : l[i]? = some x) (hy : l[j]? = some y) : R x y := by
  obtain ⟨hi, rfl⟩ := List.getElem?_eq_some_iff.1 hx
  obtain ⟨hj, rfl⟩ := List.getElem?_eq_some_iff.1 hy
  exact (List.pairwise_iff_getElem.1 h) i j hi hj hij
theorem toldG_up {M : List TI.T} (h : Uniq M) {a : PD.T} {i j : Int} {x y : TT5.T} (hi : 0 ≤ i) (hij : i < j) (hx : (toldG M a)[i.toNat]? = some x) (hy : (toldG M a)[j.toNat]? = some y) : ILt x.1 y.1 :=
  pw_get (told_sorted (q := q35 a) h) (show i.toNat < j.toNat by omega) hx hy
theorem toldG_at {M : List TI.T} (h : Uniq M) {a : PD.T} {i : Nat} {x : TT5.T} (hx : (toldG M a)[i]? = some x) : eqb PD x.2.2.1 a = true ∧ eqb PD x.2.1 a = false := by
  have := toldG_is h (List.mem_of_getElem? hx)
  exact ⟨eqPD.2 this.1, neqPD.2 this.2⟩
theorem all_gone {L : List PR.T} {M : List TI.T} (h : TieInv L M) {a : PD.T} {i : Nat} {x : TT5.T} (hx : (allOf (goneL L a) (goneM M a))[i]? = some x) : eqb PD x.2.1 a = false ∧ eqb PD x.2.2.1 a = false := by
  have hx := List.mem_of_getElem? hx
  unfold allOf at hx
  rcases List.mem_append.1 hx with hx | hx
  · have hx := (isort_perm ltK _).subset hx
    obtain ⟨p, hp, rfl⟩ := List.mem_map.1 hx
    rw [goneL_is h] at hp
    have := (List.mem_filter.1 hp).2
    simp only [Bool.not_eq_true', Bool.or_eq_false_iff] at this
    exact this
  · have hx := ((told_mem (inv_gone h a).uq _).1 hx).1
    rw [goneM_is h.uq] at hx
    have := (List.mem_filter.1 hx).2
    unfold q36 at this
    simp only [Bool.not_eq_true', Bool.or_eq_false_iff] at this
    exact this
end Go.Proofs.Ytjhgjbagmkiibaa.E
end
section
namespace Go.Proofs.Ytjhgjbagmkiibaa.E
open Go.Lg
set_option linter.unusedVariables false
set_option maxRecDepth 100000
set_option maxHeartbeats 8000000
set_option linter.unusedSimpArgs false
def sameB (s : Sh) : List s.T → List s.T → Bool
  | [], [] => true
  | x :: l, y :: r => eqb s x y && sameB s l r
  | _, _ => false
theorem sameB_iff {s : Sh} (hf : plainS s = true) : ∀ {l r : List s.T}, sameB s l r = true ↔ l = r
  | [], [] => by simp [sameB]
  | [], y :: r => by simp [sameB]
  | x :: l, [] => by simp [sameB]
  | x :: l, y :: r => by
    unfold sameB
    rw [Bool.and_eq_true, sameB_iff hf, List.cons.injEq, eqb_iff hf]
theorem sameT {s : Sh} (hf : plainS s = true) {l r : List s.T} {i : Int} (hi : (l.length : Int) ≤ i) (hn : (l.length : Int) = (r.length : Int)) (h : l.take i.toNat = r.take i.toNat) : true = sameB s l r := by
  rw [List.take_of_length_le (by omega), List.take_of_length_le (by omega)] at h
  exact ((sameB_iff hf).2 h).symm
theorem sameF {s : Sh} (hf : plainS s = true) {l r : List s.T} (h : l ≠ r) : false = sameB s l r := by
  cases e : sameB s l r with
  | false => rfl
  | true => exact absurd ((sameB_iff hf).1 e) h
theorem same_next {s : Sh} (hf : plainS s = true) {a b : List s.T} {i : Int} {x y : s.T} (h0 : 0 ≤ i) (h : a.take i.toNat = b.take i.toNat) (hx : a[i.toNat]? = some x) (hy : b[i.toNat]? = some y) (e : eqb s x y = true) : a.take (i + 1).toNat = b.take (i + 1).toNat := by
  rw [show (i + 1).toNat = i.toNat + 1 by omega, List.take_add_one, List.take_add_one, h, hx, hy, eqb_eq hf e]
theorem same_not {s : Sh} (hf : plainS s = true) {a b : List s.T} {i : Int} {x y : s.T} (hx : a[i.toNat]? = some x) (hy : b[i.toNat]? = some y) (e : eqb s x y = false) : a ≠ b := by
  rintro rfl
  rw [hx] at hy
  cases hy
  rw [eqb_refl hf] at e
  cases e
theorem in_next {a : PD.T} {l : List PD.T} {i : Int} {x : PD.T} (h0 : 0 ≤ i) (h : a ∉ l.take i.toNat) (hx : l[i.toNat]? = some x) (e : eqb PD x a = false) : a ∉ l.take (i + 1).toNat := by
  rw [show (i + 1).toNat = i.toNat + 1 by omega, List.take_add_one, hx, List.mem_append]
  rintro (h' | h')
  · exact h h'
  · simp only [Option.toList, List.mem_singleton] at h'
    exact neqPD.1 e h'.symm
theorem in_at {a : PD.T} {l : List PD.T} {i : Nat} {x : PD.T} (hx : l[i]? = some x) (e : eqb PD x a = true) : true = memB PD a l := by
  have := eqPD.1 e
  subst this
  exact ((memB_iff (s := PD) rfl).2 (List.mem_of_getElem? hx)).symm
theorem in_not {a : PD.T} {l : List PD.T} {i : Int} (h : a ∉ l.take i.toNat) (hi : (l.length : Int) ≤ i) : false = memB PD a l := by
  rw [List.take_of_length_le (by omega)] at h
  cases e : memB PD a l with
  | false => rfl
  | true => exact absurd ((memB_iff (s := PD) rfl).1 e) h
theorem samepids_ok (bz nz pz by_ ny py : Bool) (l r : List PD.T) (hl : (l.length : Int) ≤ 70368744177664) (hr : (r.length : Int) ≤ 70368744177664)  : PureC pg an 14 [.one (sv PD bz nz pz l), .one (sv PD by_ ny py r)] [.one (vb (sameB PD l r))] := by
 suffices h : ∃ rs H', Runs pg an 14 [.one (sv PD bz nz pz l), .one (sv PD by_ ny py r)] [] rs H' ∧ rs.mapM (backY H') = some [.one (vb (sameB PD l r))] by
  obtain ⟨rs, H', h1, h2⟩ := h
  exact ⟨rs, H', h1, h2⟩
 refine Runs.of (fn := Try.f14) Try.func14 rfl (by kernel_rfl) [(0, .y (.one (sv PD bz nz pz l))), (1, .y (.one (sv PD by_ ny py r)))] (by kernel_rfl) ?_
 refine Wp.regionSeq [] [(0, .y (.one (sv PD bz nz pz l))), (1, .y (.one (sv PD by_ ny py r)))] []
   (cast trivial (by kernel_rfl)) (by kernel_rfl) ?_
 refine Wp.seq ?_
 rcases ieq ((l.length : Int)) ((r.length : Int)) with c1 | c1
 ·
  refine Wp.regionSeq [(4, xb false, [])] [(0, .y (.one (sv PD bz nz pz l))), (1, .y (.one (sv PD by_ ny py r))), (10, xb false)] []
    (cast (And.intro (ob_raw (P := pg) (A := an) (vals := [xi (l.length : Int), xi (r.length : Int)]) (H := []) (op := .binOp .neq 3 (.tmp 0) (.tmp 1) 3) (ty := 0) (r := xb (bneI ((l.length : Int)) ((r.length : Int)))) (v := xb false) (by kernel_rfl) (congrArg (fun z => xb z) (bne_f (by omega)))) trivial) (by kernel_rfl)) (by kernel_rfl) ?_
  refine Wp.condF (by kernel_rfl) ?_
  refine Wp.skip ?_
  refine Wp.seq ?_
  refine Wp.regionSeq [] [(0, .y (.one (sv PD bz nz pz l))), (1, .y (.one (sv PD by_ ny py r))), (5, xi 0)] []
    (cast trivial (by kernel_rfl)) (by kernel_rfl) ?_
  refine Wp.block ?_
  refine Wp.loop (T := Go.Lg.Heap × Int) (fun (t : Go.Lg.Heap × Int) => match t with | (H3, i) => (((l.length : Int) - i).toNat : Nat)) (fun (t : Go.Lg.Heap × Int) => match t with | (H3, i) => ([(0, .y (.one (sv PD bz nz pz l))), (1, .y (.one (sv PD by_ ny py r))), (5, xi i)] : Env)) (fun (t : Go.Lg.Heap × Int) => match t with | (H3, i) => (H3 : Go.Lg.Heap))
    (fun (t : Go.Lg.Heap × Int) => match t with | (H3, i) => (On [] H3 ∧ (0 ≤ i) ∧ (i ≤ (l.length : Int)) ∧ (l.take i.toNat = r.take i.toNat) : Prop)) ([], 0) (by kernel_rfl) (⟨(On.pick [] [] (by kernel_rfl) (On.nil [])), by omega, by omega, by simp⟩) ?_
  rintro ⟨H3, i⟩ ⟨hs4, h1, h2, h3⟩
  show Wp _ _ _ _ [(0, .y (.one (sv PD bz nz pz l))), (1, .y (.one (sv PD by_ ny py r))), (5, xi i)] H3 _
  refine Wp.seq ?_
  rcases ilt (i) ((l.length : Int)) with c5 | c5
  ·
   refine Wp.regionSeq [(3, xb true, H3)] [(0, .y (.one (sv PD bz nz pz l))), (1, .y (.one (sv PD by_ ny py r))), (5, xi i), (14, xb true)] H3
     (cast (And.intro (ob_raw (P := pg) (A := an) (vals := [xi i, xi (l.length : Int)]) (H := H3) (op := .binOp .lss 3 (.tmp 0) (.tmp 1) 3) (ty := 0) (r := xb (decide (ILt (i) ((l.length : Int))))) (v := xb true) (by kernel_rfl) (congrArg (fun z => xb z) (decide_eq_true (by omega)))) trivial) (by kernel_rfl)) (by kernel_rfl) ?_
   refine Wp.condT (by kernel_rfl) ?_
   refine Wp.skip ?_
   refine Wp.seq ?_
   refine Wp.block ?_
   obtain ⟨x6, hx6⟩ : ∃ x, l[(i : Int).toNat]? = some x := get_of (by omega)
   obtain ⟨x7, hx7⟩ : ∃ x, r[(i : Int).toNat]? = some x := get_of (by omega)
   rcases Bool.eq_false_or_eq_true ((eqb PD x6 x7)) with c8 | c8
   ·
    refine Wp.regionSeq [(2, .y (.one (.rd ([vi x6.1, vi x6.2.1] ++ (l.drop ((i : Int).toNat + 1)).flatMap (enc PD)))), H3), (6, .y (.one (.rd ([vi x7.1, vi x7.2.1] ++ (r.drop ((i : Int).toNat + 1)).flatMap (enc PD)))), H3), (8, xb false, H3)] [(0, .y (.one (sv PD bz nz pz l))), (1, .y (.one (sv PD by_ ny py r))), (5, xi i), (25, xb false)] H3
      (cast (And.intro (ob_index (P := pg) (A := an) (H := H3) (s := PD) (b := bz) (nil := nz) (capd := pz) (t := 32) (el := 24) (i := i) Try.underlying32 (by kernel_rfl) (by kernel_rfl) (by omega) hx6) (And.intro (ob_index (P := pg) (A := an) (H := H3) (s := PD) (b := by_) (nil := ny) (capd := py) (t := 32) (el := 24) (i := i) Try.underlying32 (by kernel_rfl) (by kernel_rfl) (by omega) hx7) (And.intro (ob_neq_agg (P := pg) (A := an) (H := H3) (s := PD) (t := 24) (u := 24) (ty := 0) (x := x6) (y := x7) (r := false) (by kernel_rfl) c8) trivial))) (by kernel_rfl)) (by kernel_rfl) ?_
    refine Wp.condF (by kernel_rfl) ?_
    refine Wp.skip ?_
    refine Wp.region [(1, xi (i + 1), H3)] [(0, .y (.one (sv PD bz nz pz l))), (1, .y (.one (sv PD by_ ny py r))), (5, xi (i + 1))] H3
      (cast (And.intro (ob_raw (P := pg) (A := an) (vals := [xi i, xi 1]) (H := H3) (op := .binOp .add 3 (.tmp 0) (.tmp 1) 3) (ty := 0) (r := xi (IntKind.wrap .i64 (i + 1))) (v := xi (i + 1)) (by kernel_rfl) (congrArg (fun z => xi z) ((wrap64 (by omega)).trans (by omega)))) trivial) (by kernel_rfl)) (by kernel_rfl) ?_
    exact ⟨(H3, (i + 1)), by kernel_rfl, (⟨(On.pick [] [] (by kernel_rfl) hs4), by omega, by omega, same_next rfl (by omega) h3 hx6 hx7 c8⟩), (by show (_ : Nat) < _; simp only []; omega)⟩
   ·
    refine Wp.regionSeq [(2, .y (.one (.rd ([vi x6.1, vi x6.2.1] ++ (l.drop ((i : Int).toNat + 1)).flatMap (enc PD)))), H3), (6, .y (.one (.rd ([vi x7.1, vi x7.2.1] ++ (r.drop ((i : Int).toNat + 1)).flatMap (enc PD)))), H3), (8, xb true, H3)] [(0, .y (.one (sv PD bz nz pz l))), (1, .y (.one (sv PD by_ ny py r))), (5, xi i), (25, xb true)] H3
      (cast (And.intro (ob_index (P := pg) (A := an) (H := H3) (s := PD) (b := bz) (nil := nz) (capd := pz) (t := 32) (el := 24) (i := i) Try.underlying32 (by kernel_rfl) (by kernel_rfl) (by omega) hx6) (And.intro (ob_index (P := pg) (A := an) (H := H3) (s := PD) (b := by_) (nil := ny) (capd := py) (t := 32) (el := 24) (i := i) Try.underlying32 (by kernel_rfl) (by kernel_rfl) (by omega) hx7) (And.intro (ob_neq_agg (P := pg) (A := an) (H := H3) (s := PD) (t := 24) (u := 24) (ty := 0) (x := x6) (y := x7) (r := true) (by kernel_rfl) c8) trivial))) (by kernel_rfl)) (by kernel_rfl) ?_
    refine Wp.condT (by kernel_rfl) ?_
    refine Wp.regionSeq [] [(4, xb false)] H3
      (cast trivial (by kernel_rfl)) (by kernel_rfl) ?_
    refine Wp.ret ?_
    refine ⟨Or.inr rfl, [.one (vb false)], (by kernel_rfl), ?_⟩
    rw [show [Y.one (vb (sameB PD l r))] = [.one (vb false)] from congrArg (fun z => [Y.one (vb z)]) (sameF rfl (same_not rfl hx6 hx7 c8)).symm]
    exact (by kernel_rfl)
  ·
   refine Wp.regionSeq [(3, xb false, H3)] [(0, .y (.one (sv PD bz nz pz l))), (1, .y (.one (sv PD by_ ny py r))), (5, xi i), (14, xb false)] H3
     (cast (And.intro (ob_raw (P := pg) (A := an) (vals := [xi i, xi (l.length : Int)]) (H := H3) (op := .binOp .lss 3 (.tmp 0) (.tmp 1) 3) (ty := 0) (r := xb (decide (ILt (i) ((l.length : Int))))) (v := xb false) (by kernel_rfl) (congrArg (fun z => xb z) (decide_eq_false (by omega)))) trivial) (by kernel_rfl)) (by kernel_rfl) ?_
   refine Wp.condF (by kernel_rfl) ?_
   refine Wp.exit ?_
   refine Eq.mpr (if_pos rfl) ?_
   refine Wp.regionSeq [] [(4, xb true)] H3
     (cast trivial (by kernel_rfl)) (by kernel_rfl) ?_
   refine Wp.ret ?_
   refine ⟨Or.inr rfl, [.one (vb true)], (by kernel_rfl), ?_⟩
   rw [show [Y.one (vb (sameB PD l r))] = [.one (vb true)] from congrArg (fun z => [Y.one (vb z)]) (sameT rfl (by omega) (by omega) h3).symm]
   exact (by kernel_rfl)
 ·
  refine Wp.regionSeq [(4, xb true, [])] [(0, .y (.one (sv PD bz nz pz l))), (1, .y (.one (sv PD by_ ny py r))), (10, xb true)] []
    (cast (And.intro (ob_raw (P := pg) (A := an) (vals := [xi (l.length : Int), xi (r.length : Int)]) (H := []) (op := .binOp .neq 3 (.tmp 0) (.tmp 1) 3) (ty := 0) (r := xb (bneI ((l.length : Int)) ((r.length : Int)))) (v := xb true) (by kernel_rfl) (congrArg (fun z => xb z) (bne_t (by omega)))) trivial) (by kernel_rfl)) (by kernel_rfl) ?_
  refine Wp.condT (by kernel_rfl) ?_
  refine Wp.regionSeq [] [(4, xb false)] []
    (cast trivial (by kernel_rfl)) (by kernel_rfl) ?_
  refine Wp.ret ?_
  refine ⟨Or.inr rfl, [.one (vb false)], (by kernel_rfl), ?_⟩
  rw [show [Y.one (vb (sameB PD l r))] = [.one (vb false)] from congrArg (fun z => [Y.one (vb z)]) (sameF rfl (fun he => by have h9 := congrArg List.length he; omega)).symm]
  exact (by kernel_rfl)
theorem in_ok (bz nz pz : Bool) (l : List PD.T) (a : PD.T) (hl : (l.length : Int) ≤ 70368744177664)  : PureC pg an 9 [.one (sv PD bz nz pz l), .agg [vi a.1, vi a.2.1]] [.one (vb (memB PD a l))] := by
 suffices h : ∃ rs H', Runs pg an 9 [.one (sv PD bz nz pz l), .agg [vi a.1, vi a.2.1]] [] rs H' ∧ rs.mapM (backY H') = some [.one (vb (memB PD a l))] by
  obtain ⟨rs, H', h1, h2⟩ := h
  exact ⟨rs, H', h1, h2⟩
 refine Runs.of (fn := Try.f9) Try.func9 rfl (by kernel_rfl) [(0, .y (.one (sv PD bz nz pz l))), (1, .y (.agg [vi a.1, vi a.2.1]))] (by kernel_rfl) ?_
 obtain ⟨n1, hn1⟩ : ∃ n, n = List.length ([] : Go.Lg.Heap) := ⟨_, rfl⟩
 refine Wp.regionSeq [(0, .y (.one (.ptr n1 0)), ([] ++ [.obj [vi a.1, vi a.2.1]]))] [(0, .y (.one (sv PD bz nz pz l))), (3, .y (.one (.ptr n1 0)))] ([] ++ [.obj [vi a.1, vi a.2.1]])
   (cast (And.intro (ob_box (P := pg) (A := an) (H := []) (t := 24) (ty := 0) (n := n1) (v := .agg [vi a.1, vi a.2.1]) (cs := [vi a.1, vi a.2.1]) hn1 (by kernel_rfl) (by kernel_rfl) (by kernel_rfl)) trivial) (by kernel_rfl)) (by kernel_rfl) ?_
 refine Wp.gen (cs := [pts n1 (.obj [vi a.1, vi a.2.1])]) (On.new' hn1 (.obj [vi a.1, vi a.2.1]) (On.nil [])) ?_
 intro H2 hs3
 refine Wp.seq ?_
 refine Wp.regionSeq [] [(0, .y (.one (sv PD bz nz pz l))), (3, .y (.one (.ptr n1 0))), (5, xi 0)] H2
   (cast trivial (by kernel_rfl)) (by kernel_rfl) ?_
 refine Wp.block ?_
 refine Wp.loop (T := Go.Lg.Heap × Int) (fun (t : Go.Lg.Heap × Int) => match t with | (H5, i) => (((l.length : Int) - i).toNat : Nat)) (fun (t : Go.Lg.Heap × Int) => match t with | (H5, i) => ([(0, .y (.one (sv PD bz nz pz l))), (3, .y (.one (.ptr n1 0))), (5, xi i)] : Env)) (fun (t : Go.Lg.Heap × Int) => match t with | (H5, i) => (H5 : Go.Lg.Heap))
   (fun (t : Go.Lg.Heap × Int) => match t with | (H5, i) => (On [pts n1 (.obj [vi a.1, vi a.2.1])] H5 ∧ (0 ≤ i) ∧ (i ≤ (l.length : Int)) ∧ (a ∉ l.take i.toNat) : Prop)) (H2, 0) (by kernel_rfl) (⟨(On.pick [0] [] (by kernel_rfl) hs3), by omega, by omega, by simp⟩) ?_
 rintro ⟨H5, i⟩ ⟨hs6, h1, h2, h3⟩
 show Wp _ _ _ _ [(0, .y (.one (sv PD bz nz pz l))), (3, .y (.one (.ptr n1 0))), (5, xi i)] H5 _
 refine Wp.seq ?_
 rcases ilt (i) ((l.length : Int)) with c7 | c7
 ·
  refine Wp.regionSeq [(3, xb true, H5)] [(0, .y (.one (sv PD bz nz pz l))), (3, .y (.one (.ptr n1 0))), (5, xi i), (9, xb true)] H5
    (cast (And.intro (ob_raw (P := pg) (A := an) (vals := [xi i, xi (l.length : Int)]) (H := H5) (op := .binOp .lss 3 (.tmp 0) (.tmp 1) 3) (ty := 0) (r := xb (decide (ILt (i) ((l.length : Int))))) (v := xb true) (by kernel_rfl) (congrArg (fun z => xb z) (decide_eq_true (by omega)))) trivial) (by kernel_rfl)) (by kernel_rfl) ?_
  refine Wp.condT (by kernel_rfl) ?_
  refine Wp.skip ?_
  refine Wp.seq ?_
  refine Wp.block ?_
  obtain ⟨x8, hx8⟩ : ∃ x, l[(i : Int).toNat]? = some x := get_of (by omega)
  rcases Bool.eq_false_or_eq_true ((eqb PD x8 a)) with c9 | c9
  ·
   refine Wp.regionSeq [(2, .y (.one (.rd ([vi x8.1, vi x8.2.1] ++ (l.drop ((i : Int).toNat + 1)).flatMap (enc PD)))), H5), (4, .y (.agg [vi a.1, vi a.2.1]), H5), (5, xb true, H5)] [(0, .y (.one (sv PD bz nz pz l))), (3, .y (.one (.ptr n1 0))), (5, xi i), (17, xb true)] H5
     (cast (And.intro (ob_index (P := pg) (A := an) (H := H5) (s := PD) (b := bz) (nil := nz) (capd := pz) (t := 32) (el := 24) (i := i) Try.underlying32 (by kernel_rfl) (by kernel_rfl) (by omega) hx8) (And.intro (ob_load_ptr (P := pg) (A := an) (H := H5) (t := 24) (ty := 0) (id := n1) (off := 0) (n := 2) (cs := [vi a.1, vi a.2.1]) (cs' := [vi a.1, vi a.2.1]) (v := .agg [vi a.1, vi a.2.1]) (On.at hs6 0 rfl) (by kernel_rfl) (by kernel_rfl) (by kernel_rfl) (by kernel_rfl)) (And.intro (ob_eq_agg (P := pg) (A := an) (H := H5) (s := PD) (t := 24) (u := 24) (ty := 0) (x := x8) (y := a) (r := true) (by kernel_rfl) c9) trivial))) (by kernel_rfl)) (by kernel_rfl) ?_
   refine Wp.condT (by kernel_rfl) ?_
   refine Wp.regionSeq [] [(4, xb true)] H5
     (cast trivial (by kernel_rfl)) (by kernel_rfl) ?_
   refine Wp.ret ?_
   refine ⟨Or.inr rfl, [.one (vb true)], (by kernel_rfl), ?_⟩
   rw [show [Y.one (vb (memB PD a l))] = [.one (vb true)] from congrArg (fun z => [Y.one (vb z)]) (in_at hx8 c9).symm]
   exact (by kernel_rfl)
  ·
   refine Wp.regionSeq [(2, .y (.one (.rd ([vi x8.1, vi x8.2.1] ++ (l.drop ((i : Int).toNat + 1)).flatMap (enc PD)))), H5), (4, .y (.agg [vi a.1, vi a.2.1]), H5), (5, xb false, H5)] [(0, .y (.one (sv PD bz nz pz l))), (3, .y (.one (.ptr n1 0))), (5, xi i), (17, xb false)] H5
     (cast (And.intro (ob_index (P := pg) (A := an) (H := H5) (s := PD) (b := bz) (nil := nz) (capd := pz) (t := 32) (el := 24) (i := i) Try.underlying32 (by kernel_rfl) (by kernel_rfl) (by omega) hx8) (And.intro (ob_load_ptr (P := pg) (A := an) (H := H5) (t := 24) (ty := 0) (id := n1) (off := 0) (n := 2) (cs := [vi a.1, vi a.2.1]) (cs' := [vi a.1, vi a.2.1]) (v := .agg [vi a.1, vi a.2.1]) (On.at hs6 0 rfl) (by kernel_rfl) (by kernel_rfl) (by kernel_rfl) (by kernel_rfl)) (And.intro (ob_eq_agg (P := pg) (A := an) (H := H5) (s := PD) (t := 24) (u := 24) (ty := 0) (x := x8) (y := a) (r := false) (by kernel_rfl) c9) trivial))) (by kernel_rfl)) (by kernel_rfl) ?_
   refine Wp.condF (by kernel_rfl) ?_
   refine Wp.skip ?_
   refine Wp.region [(1, xi (i + 1), H5)] [(0, .y (.one (sv PD bz nz pz l))), (3, .y (.one (.ptr n1 0))), (5, xi (i + 1))] H5
     (cast (And.intro (ob_raw (P := pg) (A := an) (vals := [xi i, xi 1]) (H := H5) (op := .binOp .add 3 (.tmp 0) (.tmp 1) 3) (ty := 0) (r := xi (IntKind.wrap .i64 (i + 1))) (v := xi (i + 1)) (by kernel_rfl) (congrArg (fun z => xi z) ((wrap64 (by omega)).trans (by omega)))) trivial) (by kernel_rfl)) (by kernel_rfl) ?_
   exact ⟨(H5, (i + 1)), by kernel_rfl, (⟨(On.pick [0] [] (by kernel_rfl) hs6), by omega, by omega, in_next (by omega) h3 hx8 c9⟩), (by show (_ : Nat) < _; simp only []; omega)⟩
 ·
  refine Wp.regionSeq [(3, xb false, H5)] [(0, .y (.one (sv PD bz nz pz l))), (3, .y (.one (.ptr n1 0))), (5, xi i), (9, xb false)] H5
    (cast (And.intro (ob_raw (P := pg) (A := an) (vals := [xi i, xi (l.length : Int)]) (H := H5) (op := .binOp .lss 3 (.tmp 0) (.tmp 1) 3) (ty := 0) (r := xb (decide (ILt (i) ((l.length : Int))))) (v := xb false) (by kernel_rfl) (congrArg (fun z => xb z) (decide_eq_false (by omega)))) trivial) (by kernel_rfl)) (by kernel_rfl) ?_
  refine Wp.condF (by kernel_rfl) ?_
  refine Wp.exit ?_
  refine Eq.mpr (if_pos rfl) ?_
  refine Wp.regionSeq [] [(4, xb false)] H5
    (cast trivial (by kernel_rfl)) (by kernel_rfl) ?_
  refine Wp.ret ?_
  refine ⟨Or.inr rfl, [.one (vb false)], (by kernel_rfl), ?_⟩
  rw [show [Y.one (vb (memB PD a l))] = [.one (vb false)] from congrArg (fun z => [Y.one (vb z)]) (in_not h3 (by omega)).symm]
  exact (by kernel_rfl)
end Go.Proofs.Ytjhgjbagmkiibaa.E
end
section
namespace Go.Proofs.Ytjhgjbagmkiibaa.E
open Go.Lg
set_option linter.unusedVariables false
set_option maxRecDepth 100000
set_option maxHeartbeats 8000000
set_option linter.unusedSimpArgs false
theorem links_nil (R : HP) (H : Go.Lg.Heap) (tt l mo : Nat) (L : List PR.T) (M : List TI.T) (a : PD.T) (h : On [R, pts tt (.obj [.mp l, .mp mo]), pts l (lnkO L), pts mo (monO M)] H) (hok : okTies L M = true) (h0 : isort ltD (lnkOf L a) = []) :
    ∃ rs H', Runs pg an 10 [.one (.ptr tt 0), .agg [vi a.1, vi a.2.1]] H rs H' ∧ rs = [.one nilC] ∧ On [R, pts tt (.obj [.mp l, .mp mo]), pts l (lnkO L), pts mo (monO M)] H' := by
  obtain ⟨rs, H', h1, c, rfl, h2⟩ := links_c (A := an) rfl rfl R H tt l mo L M a h hok
  rw [h0] at h2
  rcases own_open h2 4 rfl with ⟨rfl, _, h3⟩ | ⟨k, _, hk, _⟩
  · exact ⟨_, _, h1, rfl, h3⟩
  · exact absurd rfl hk
theorem watchers_nil (R : HP) (H : Go.Lg.Heap) (tt l mo : Nat) (L : List PR.T) (M : List TI.T) (b : PD.T) (h : On [R, pts tt (.obj [.mp l, .mp mo]), pts l (lnkO L), pts mo (monO M)] H) (hok : okTies L M = true) (h0 : watOf M b = []) :
    ∃ rs H', Runs pg an 15 [.one (.ptr tt 0), .agg [vi b.1, vi b.2.1]] H rs H' ∧ rs = [.one nilC] ∧ On [R, pts tt (.obj [.mp l, .mp mo]), pts l (lnkO L), pts mo (monO M)] H' := by
  obtain ⟨rs, H', h1, c, rfl, h2⟩ := watchers_ok R H tt l mo L M b h hok
  rw [h0] at h2
  rcases own_open h2 4 rfl with ⟨rfl, _, h3⟩ | ⟨k, _, hk, _⟩
  · exact ⟨_, _, h1, rfl, h3⟩
  · exact absurd rfl hk
theorem lenGd (M : List TI.T) (a : PD.T) : ((toldG M a).length : Int) ≤ (M.length : Int) := by
  unfold toldG
  rw [List.length_map]
  exact lenIM _ _
theorem lenGL (L : List PR.T) (a : PD.T) : ((goneL L a).length : Int) ≤ (L.length : Int) := by
  unfold goneL
  rw [delsL_is]
  exact Int.ofNat_le.2 (List.length_filter_le _ _)
theorem lenGM (M : List TI.T) (a : PD.T) : ((goneM M a).length : Int) ≤ (M.length : Int) := by
  unfold goneM
  rw [delsM_is]
  exact Int.ofNat_le.2 (List.length_filter_le _ _)
theorem aw_elem {l : List TT5.T} {n : Nat} {x y z : TT5.T} (hx : l[n]? = some x) (h9 : l[n]? = some y) (hz : eqb TT5 y z = true) : eqb TT5 x z = true := by
  rw [hx] at h9
  cases h9
  exact hz
theorem awake_ok (R : HP) (H : Go.Lg.Heap) (hs : On [R] H) : ∃ rs H', Runs pg an 17 [] H rs H' ∧ rs = [.one (vb true)] ∧ On [R] H' := by
 refine Runs.of (fn := Try.f17) Try.func17 rfl (by kernel_rfl) [] (by kernel_rfl) ?_
 refine Wp.regionSeq [] [] H
   (cast trivial (by kernel_rfl)) (by kernel_rfl) ?_
 obtain ⟨_, H4, hr5, n1, n2, n3, rfl, hs6⟩ := new_ok _ (H : Go.Lg.Heap) (On.call [] [0] (by kernel_rfl) hs)
 have hs6 : On [R, pts n1 (lnkO ([])), pts n2 (monO ([])), pts n3 (.obj [.mp n1, .mp n2])] H4 := On.flat hs6
 refine Wp.regionSeq [(0, .y (.one (.ptr n3 0)), H4)] [(1, .y (.one (.ptr n3 0)))] H4
   (cast (And.intro (ob_call (P := pg) (A := an) (H := H) (g := 7) (vals := []) (xs0 := []) (res := [.one (.ptr n3 0)]) (ats := #[]) (ty := 0) (v := .y (.one (.ptr n3 0))) (H' := H4) [] (by kernel_rfl) (by kernel_rfl) hr5 (by kernel_rfl)) trivial) (by kernel_rfl)) (by kernel_rfl) ?_
 refine Wp.gen (cs := [R, pts n1 (lnkO ([])), pts n2 (monO ([])), pts n3 (.obj [.mp n1, .mp n2])]) hs6 ?_
 intro H7 hs8
 obtain ⟨n9, hn9⟩ : ∃ n, n = List.length (H7 : Go.Lg.Heap) := ⟨_, rfl⟩
 obtain ⟨n10, hn10⟩ : ∃ n, n = List.length ((H7 ++ [.obj [vi 0, vi 0]]) : Go.Lg.Heap) := ⟨_, rfl⟩
 refine Wp.regionSeq [(2, .y (.one (.ptr n9 0)), (H7 ++ [.obj [vi 0, vi 0]])), (3, .y (.one (.ptr n10 0)), ((H7 ++ [.obj [vi 0, vi 0]]) ++ [.obj [vi 0, vi 0]])), (4, .tup [], (List.set (α := O) ((H7 ++ [.obj [vi 0, vi 0]]) ++ [.obj [vi 0, vi 0]]) n9 (.obj [vi 2, vi 1]))), (5, .tup [], (List.set (α := O) (List.set (α := O) ((H7 ++ [.obj [vi 0, vi 0]]) ++ [.obj [vi 0, vi 0]]) n9 (.obj [vi 2, vi 1])) n10 (.obj [vi 1, vi 1])))] [(1, .y (.one (.ptr n3 0))), (2, .y (.one (.ptr n9 0))), (3, .y (.one (.ptr n10 0)))] (List.set (α := O) (List.set (α := O) ((H7 ++ [.obj [vi 0, vi 0]]) ++ [.obj [vi 0, vi 0]]) n9 (.obj [vi 2, vi 1])) n10 (.obj [vi 1, vi 1]))
   (cast (And.intro (ob_alloc (P := pg) (A := an) (H := H7) (t := 24) (ty := 0) (n := n9) (cs := [vi 0, vi 0]) hn9 (by kernel_rfl)) (And.intro (ob_alloc (P := pg) (A := an) (H := (H7 ++ [.obj [vi 0, vi 0]])) (t := 24) (ty := 0) (n := n10) (cs := [vi 0, vi 0]) hn10 (by kernel_rfl)) (And.intro (ob_store_ptr (P := pg) (A := an) (H := ((H7 ++ [.obj [vi 0, vi 0]]) ++ [.obj [vi 0, vi 0]])) (t := 24) (ty := 0) (id := n9) (off := 0) (cs := [vi 0, vi 0]) (cs' := [vi 2, vi 1]) (v := .agg [vi 2, vi 1]) (On.at (On.new' hn10 (.obj [vi 0, vi 0]) (On.new' hn9 (.obj [vi 0, vi 0]) hs8)) 4 rfl) (by kernel_rfl) (by kernel_rfl) (by kernel_rfl)) (And.intro (ob_store_ptr (P := pg) (A := an) (H := (List.set (α := O) ((H7 ++ [.obj [vi 0, vi 0]]) ++ [.obj [vi 0, vi 0]]) n9 (.obj [vi 2, vi 1]))) (t := 24) (ty := 0) (id := n10) (off := 0) (cs := [vi 0, vi 0]) (cs' := [vi 1, vi 1]) (v := .agg [vi 1, vi 1]) (On.at (On.put (.obj [vi 2, vi 1]) (On.new' hn10 (.obj [vi 0, vi 0]) (On.new' hn9 (.obj [vi 0, vi 0]) hs8)) 4 rfl) 5 rfl) (by kernel_rfl) (by kernel_rfl) (by kernel_rfl)) trivial)))) (by kernel_rfl)) (by kernel_rfl) ?_
 refine Wp.gen (cs := [R, pts n1 (lnkO ([])), pts n2 (monO ([])), pts n3 (.obj [.mp n1, .mp n2]), pts n9 (.obj [vi 2, vi 1]), pts n10 (.obj [vi 1, vi 1])]) (On.put (.obj [vi 1, vi 1]) (On.put (.obj [vi 2, vi 1]) (On.new' hn10 (.obj [vi 0, vi 0]) (On.new' hn9 (.obj [vi 0, vi 0]) hs8)) 4 rfl) 5 rfl) ?_
 intro H11 hs12
 refine Wp.seq ?_
 obtain ⟨_, H14, hr15, rfl, hs16⟩ := link_ok _ (H11 : Go.Lg.Heap) n3 n1 n2 ([]) ([]) (2, (1, ())) (1, (1, ())) (On.call [3, 1, 2] [0, 4, 5] (by kernel_rfl) hs12) (by kernel_rfl)
 have hs16 : On [R, pts n9 (.obj [vi 2, vi 1]), pts n10 (.obj [vi 1, vi 1]), pts n3 (.obj [.mp n1, .mp n2]), pts n1 (lnkO (linkL ([]) ([]) (2, (1, ())) (1, (1, ())))), pts n2 (monO ([]))] H14 := On.flat hs16
 have he13 : ((linkE ([]) ([]) (2, (1, ())) (1, (1, ()))) : Int) = 0 := by kernel_rfl
 obtain ⟨_, H18, hr19, rfl, hs20⟩ := monitor_ok _ (H14 : Go.Lg.Heap) n3 n1 n2 (linkL ([]) ([]) (2, (1, ())) (1, (1, ()))) ([]) 5 (1, (1, ())) (2, (1, ())) (On.call [3, 4, 5] [0, 1, 2] (by kernel_rfl) hs16) (by kernel_rfl)
 have hs20 : On [R, pts n9 (.obj [vi 2, vi 1]), pts n10 (.obj [vi 1, vi 1]), pts n3 (.obj [.mp n1, .mp n2]), pts n1 (lnkO (linkL ([]) ([]) (2, (1, ())) (1, (1, ())))), pts n2 (monO (monM (linkL ([]) ([]) (2, (1, ())) (1, (1, ()))) ([]) 5 (1, (1, ())) (2, (1, ()))))] H18 := On.flat hs20
 have he17 : ((monE (linkL ([]) ([]) (2, (1, ())) (1, (1, ()))) ([]) 5 (1, (1, ())) (2, (1, ()))) : Int) = 0 := by kernel_rfl
 refine Wp.regionSeq [(4, .y (.agg [vi 2, vi 1]), H11), (5, .y (.agg [vi 1, vi 1]), H11), (6, xi (linkE ([]) ([]) (2, (1, ())) (1, (1, ()))), H14), (7, xb false, H14), (11, .y (.agg [vi 1, vi 1]), H14), (12, .y (.agg [vi 2, vi 1]), H14), (13, xi (monE (linkL ([]) ([]) (2, (1, ())) (1, (1, ()))) ([]) 5 (1, (1, ())) (2, (1, ()))), H18), (14, xb false, H18)] [(1, .y (.one (.ptr n3 0))), (2, .y (.one (.ptr n9 0))), (3, .y (.one (.ptr n10 0))), (23, xb false)] H18
   (cast (And.intro (ob_load_ptr (P := pg) (A := an) (H := H11) (t := 24) (ty := 0) (id := n9) (off := 0) (n := 2) (cs := [vi 2, vi 1]) (cs' := [vi 2, vi 1]) (v := .agg [vi 2, vi 1]) (On.at hs12 4 rfl) (by kernel_rfl) (by kernel_rfl) (by kernel_rfl) (by kernel_rfl)) (And.intro (ob_load_ptr (P := pg) (A := an) (H := H11) (t := 24) (ty := 0) (id := n10) (off := 0) (n := 2) (cs := [vi 1, vi 1]) (cs' := [vi 1, vi 1]) (v := .agg [vi 1, vi 1]) (On.at hs12 5 rfl) (by kernel_rfl) (by kernel_rfl) (by kernel_rfl) (by kernel_rfl)) (And.intro (ob_call (P := pg) (A := an) (H := H11) (g := 8) (vals := [.y (.one (.ptr n3 0)), .y (.agg [vi 2, vi 1]), .y (.agg [vi 1, vi 1])]) (xs0 := [.one (.ptr n3 0), .agg [vi 2, vi 1], .agg [vi 1, vi 1]]) (res := [.one (vi (linkE ([]) ([]) (2, (1, ())) (1, (1, ()))))]) (ats := #[]) (ty := 0) (v := xi (linkE ([]) ([]) (2, (1, ())) (1, (1, ())))) (H' := H14) [.tmp 0, .tmp 1, .tmp 2] (by kernel_rfl) (by kernel_rfl) hr15 (by kernel_rfl)) (And.intro (ob_raw (P := pg) (A := an) (vals := [xi (linkE ([]) ([]) (2, (1, ())) (1, (1, ()))), xi 0]) (H := H14) (op := .binOp .neq 29 (.tmp 0) (.tmp 1) 29) (ty := 0) (r := xb (bneI ((linkE ([]) ([]) (2, (1, ())) (1, (1, ())))) (0))) (v := xb false) (by kernel_rfl) (congrArg (fun z => xb z) (bne_f (by omega)))) (And.intro (ob_load_ptr (P := pg) (A := an) (H := H14) (t := 24) (ty := 0) (id := n10) (off := 0) (n := 2) (cs := [vi 1, vi 1]) (cs' := [vi 1, vi 1]) (v := .agg [vi 1, vi 1]) (On.at hs16 2 rfl) (by kernel_rfl) (by kernel_rfl) (by kernel_rfl) (by kernel_rfl)) (And.intro (ob_load_ptr (P := pg) (A := an) (H := H14) (t := 24) (ty := 0) (id := n9) (off := 0) (n := 2) (cs := [vi 2, vi 1]) (cs' := [vi 2, vi 1]) (v := .agg [vi 2, vi 1]) (On.at hs16 1 rfl) (by kernel_rfl) (by kernel_rfl) (by kernel_rfl) (by kernel_rfl)) (And.intro (ob_call (P := pg) (A := an) (H := H14) (g := 12) (vals := [.y (.one (.ptr n3 0)), xi 5, .y (.agg [vi 1, vi 1]), .y (.agg [vi 2, vi 1])]) (xs0 := [.one (.ptr n3 0), .one (vi 5), .agg [vi 1, vi 1], .agg [vi 2, vi 1]]) (res := [.one (vi (monE (linkL ([]) ([]) (2, (1, ())) (1, (1, ()))) ([]) 5 (1, (1, ())) (2, (1, ()))))]) (ats := #[]) (ty := 0) (v := xi (monE (linkL ([]) ([]) (2, (1, ())) (1, (1, ()))) ([]) 5 (1, (1, ())) (2, (1, ())))) (H' := H18) [.tmp 0, .tmp 1, .tmp 2, .tmp 3] (by kernel_rfl) (by kernel_rfl) hr19 (by kernel_rfl)) (And.intro (ob_raw (P := pg) (A := an) (vals := [xi (monE (linkL ([]) ([]) (2, (1, ())) (1, (1, ()))) ([]) 5 (1, (1, ())) (2, (1, ()))), xi 0]) (H := H18) (op := .binOp .neq 29 (.tmp 0) (.tmp 1) 29) (ty := 0) (r := xb (bneI ((monE (linkL ([]) ([]) (2, (1, ())) (1, (1, ()))) ([]) 5 (1, (1, ())) (2, (1, ())))) (0))) (v := xb false) (by kernel_rfl) (congrArg (fun z => xb z) (bne_f (by omega)))) trivial)))))))) (by kernel_rfl)) (by kernel_rfl) ?_
 refine Wp.gen (cs := [R, pts n9 (.obj [vi 2, vi 1]), pts n10 (.obj [vi 1, vi 1]), pts n3 (.obj [.mp n1, .mp n2]), pts n1 (lnkO (linkL ([]) ([]) (2, (1, ())) (1, (1, ())))), pts n2 (monO (monM (linkL ([]) ([]) (2, (1, ())) (1, (1, ()))) ([]) 5 (1, (1, ())) (2, (1, ()))))]) hs20 ?_
 intro H21 hs22
 refine Wp.condF (by kernel_rfl) ?_
 refine Wp.skip ?_
 obtain ⟨_, H26, hr27, c23, rfl, hs28⟩ := all_c (A := an) rfl rfl _ (H21 : Go.Lg.Heap) n3 n1 n2 (linkL ([]) ([]) (2, (1, ())) (1, (1, ()))) (monM (linkL ([]) ([]) (2, (1, ())) (1, (1, ()))) ([]) 5 (1, (1, ())) (2, (1, ()))) (On.call [3, 4, 5] [0, 1, 2] (by kernel_rfl) hs22) (by kernel_rfl)
 have hs28 : On [R, pts n9 (.obj [vi 2, vi 1]), pts n10 (.obj [vi 1, vi 1]), pts n3 (.obj [.mp n1, .mp n2]), pts n1 (lnkO (linkL ([]) ([]) (2, (1, ())) (1, (1, ())))), pts n2 (monO (monM (linkL ([]) ([]) (2, (1, ())) (1, (1, ()))) ([]) 5 (1, (1, ())) (2, (1, ())))), ownP TT5 c23 (allOf (linkL ([]) ([]) (2, (1, ())) (1, (1, ()))) (monM (linkL ([]) ([]) (2, (1, ())) (1, (1, ()))) ([]) 5 (1, (1, ())) (2, (1, ()))))] H26 := On.flat hs28
 have hk24 : ((allOf (linkL ([]) ([]) (2, (1, ())) (1, (1, ()))) (monM (linkL ([]) ([]) (2, (1, ())) (1, (1, ()))) ([]) 5 (1, (1, ())) (2, (1, ())))).length : Int) = ((linkL ([]) ([]) (2, (1, ())) (1, (1, ()))).length : Int) + ((monM (linkL ([]) ([]) (2, (1, ())) (1, (1, ()))) ([]) 5 (1, (1, ())) (2, (1, ()))).length : Int) := allLen _ _
 have he25 : ((allOf (linkL ([]) ([]) (2, (1, ())) (1, (1, ()))) (monM (linkL ([]) ([]) (2, (1, ())) (1, (1, ()))) ([]) 5 (1, (1, ())) (2, (1, ())))).length : Int) = 2 := by kernel_rfl
 refine Wp.regionSeq [(1, .y (.one (c23)), H26)] [(1, .y (.one (.ptr n3 0))), (2, .y (.one (.ptr n9 0))), (3, .y (.one (.ptr n10 0))), (4, .y (.one (c23)))] H26
   (cast (And.intro (ob_call (P := pg) (A := an) (H := H21) (g := 16) (vals := [.y (.one (.ptr n3 0))]) (xs0 := [.one (.ptr n3 0)]) (res := [.one (c23)]) (ats := #[]) (ty := 0) (v := .y (.one (c23))) (H' := H26) [.tmp 0] (by kernel_rfl) (by kernel_rfl) hr27 (by kernel_rfl)) trivial) (by kernel_rfl)) (by kernel_rfl) ?_
 refine Wp.gen (cs := [R, pts n9 (.obj [vi 2, vi 1]), pts n10 (.obj [vi 1, vi 1]), pts n3 (.obj [.mp n1, .mp n2]), pts n1 (lnkO (linkL ([]) ([]) (2, (1, ())) (1, (1, ())))), pts n2 (monO (monM (linkL ([]) ([]) (2, (1, ())) (1, (1, ()))) ([]) 5 (1, (1, ())) (2, (1, ())))), ownP TT5 c23 (allOf (linkL ([]) ([]) (2, (1, ())) (1, (1, ()))) (monM (linkL ([]) ([]) (2, (1, ())) (1, (1, ()))) ([]) 5 (1, (1, ())) (2, (1, ()))))]) hs28 ?_
 intro H29 hs30
 obtain ⟨rfl, hl33, hs31⟩ | ⟨k34, rfl, k34z, hs32⟩ := own_open hs30 6 rfl
 ·
  have hl33n : ((allOf (linkL ([]) ([]) (2, (1, ())) (1, (1, ()))) (monM (linkL ([]) ([]) (2, (1, ())) (1, (1, ()))) ([]) 5 (1, (1, ())) (2, (1, ())))).length : Int) = 0 := by rw [hl33]; rfl
  exfalso; omega
 ·
  obtain ⟨x35, hx35⟩ : ∃ x : TT5.T, (allOf (linkL ([]) ([]) (2, (1, ())) (1, (1, ()))) (monM (linkL ([]) ([]) (2, (1, ())) (1, (1, ()))) ([]) 5 (1, (1, ())) (2, (1, ()))))[0]? = some x := get_of (by first | rfl | omega | (simp only [List.length_nil]; omega) | (simp; done) | (simp; omega))
  have hb36 : (eqb TT5 x35 (0, ((1, (1, ())), ((2, (1, ())), ())))) = true := aw_elem (y := ((0, ((1, (1, ())), ((2, (1, ())), ()))) : TT5.T)) hx35 (by kernel_rfl) (by kernel_rfl)
  obtain ⟨_, H40, hr41, c37, rfl, hs42⟩ := links_c (A := an) rfl rfl _ (H29 : Go.Lg.Heap) n3 n1 n2 (linkL ([]) ([]) (2, (1, ())) (1, (1, ()))) (monM (linkL ([]) ([]) (2, (1, ())) (1, (1, ()))) ([]) 5 (1, (1, ())) (2, (1, ()))) (1, (1, ())) (On.call [3, 4, 5] [0, 1, 2, 6] (by kernel_rfl) hs32) (by kernel_rfl)
  have hs42 : On [R, pts n9 (.obj [vi 2, vi 1]), pts n10 (.obj [vi 1, vi 1]), pts k34 (rowO TT5 true 0 (allOf (linkL ([]) ([]) (2, (1, ())) (1, (1, ()))) (monM (linkL ([]) ([]) (2, (1, ())) (1, (1, ()))) ([]) 5 (1, (1, ())) (2, (1, ()))))), pts n3 (.obj [.mp n1, .mp n2]), pts n1 (lnkO (linkL ([]) ([]) (2, (1, ())) (1, (1, ())))), pts n2 (monO (monM (linkL ([]) ([]) (2, (1, ())) (1, (1, ()))) ([]) 5 (1, (1, ())) (2, (1, ())))), ownP PD c37 (isort ltD (lnkOf (linkL ([]) ([]) (2, (1, ())) (1, (1, ()))) (1, (1, ()))))] H40 := On.flat hs42
  have hk38 : ((isort ltD (lnkOf (linkL ([]) ([]) (2, (1, ())) (1, (1, ()))) (1, (1, ())))).length : Int) ≤ ((linkL ([]) ([]) (2, (1, ())) (1, (1, ()))).length : Int) := lenLd _ _
  have he39 : ((isort ltD (lnkOf (linkL ([]) ([]) (2, (1, ())) (1, (1, ()))) (1, (1, ())))).length : Int) = 1 := by kernel_rfl
  obtain ⟨_, H44, hr45, rfl, hs46⟩ := link_ok _ (H40 : Go.Lg.Heap) n3 n1 n2 (linkL ([]) ([]) (2, (1, ())) (1, (1, ()))) (monM (linkL ([]) ([]) (2, (1, ())) (1, (1, ()))) ([]) 5 (1, (1, ())) (2, (1, ()))) (2, (1, ())) (2, (1, ())) (On.call [4, 5, 6] [0, 1, 2, 3, 7] (by kernel_rfl) hs42) (by kernel_rfl)
  have hs46 : On [R, pts n9 (.obj [vi 2, vi 1]), pts n10 (.obj [vi 1, vi 1]), pts k34 (rowO TT5 true 0 (allOf (linkL ([]) ([]) (2, (1, ())) (1, (1, ()))) (monM (linkL ([]) ([]) (2, (1, ())) (1, (1, ()))) ([]) 5 (1, (1, ())) (2, (1, ()))))), ownP PD c37 (isort ltD (lnkOf (linkL ([]) ([]) (2, (1, ())) (1, (1, ()))) (1, (1, ())))), pts n3 (.obj [.mp n1, .mp n2]), pts n1 (lnkO (linkL (linkL ([]) ([]) (2, (1, ())) (1, (1, ()))) (monM (linkL ([]) ([]) (2, (1, ())) (1, (1, ()))) ([]) 5 (1, (1, ())) (2, (1, ()))) (2, (1, ())) (2, (1, ())))), pts n2 (monO (monM (linkL ([]) ([]) (2, (1, ())) (1, (1, ()))) ([]) 5 (1, (1, ())) (2, (1, ()))))] H44 := On.flat hs46
  have he43 : ((linkE (linkL ([]) ([]) (2, (1, ())) (1, (1, ()))) (monM (linkL ([]) ([]) (2, (1, ())) (1, (1, ()))) ([]) 5 (1, (1, ())) (2, (1, ()))) (2, (1, ())) (2, (1, ()))) : Int) = 1 := by kernel_rfl
  refine Wp.regionSeq [(1, xi ((allOf (linkL ([]) ([]) (2, (1, ())) (1, (1, ()))) (monM (linkL ([]) ([]) (2, (1, ())) (1, (1, ()))) ([]) 5 (1, (1, ())) (2, (1, ())))).length : Int), H29), (2, xb true, H29), (5, .y (.one (raC k34 0 (allOf (linkL ([]) ([]) (2, (1, ())) (1, (1, ()))) (monM (linkL ([]) ([]) (2, (1, ())) (1, (1, ()))) ([]) 5 (1, (1, ())) (2, (1, ())))).length 5 0 0)), H29), (6, .y (.agg [vi x35.1, vi x35.2.1.1, vi x35.2.1.2.1, vi x35.2.2.1.1, vi x35.2.2.1.2.1]), H29), (7, .y (.agg [vi 1, vi 1]), H29), (8, .y (.agg [vi 2, vi 1]), H29), (10, xb true, H29), (14, .y (.agg [vi 1, vi 1]), H29), (15, .y (.one (c37)), H40), (16, xi ((isort ltD (lnkOf (linkL ([]) ([]) (2, (1, ())) (1, (1, ()))) (1, (1, ())))).length : Int), H40), (17, xb true, H40), (21, .y (.agg [vi 2, vi 1]), H40), (22, .y (.agg [vi 2, vi 1]), H40), (23, xi (linkE (linkL ([]) ([]) (2, (1, ())) (1, (1, ()))) (monM (linkL ([]) ([]) (2, (1, ())) (1, (1, ()))) ([]) 5 (1, (1, ())) (2, (1, ()))) (2, (1, ())) (2, (1, ()))), H44), (24, xb true, H44)] [(0, xb true)] H44
    (cast (And.intro (or_len (P := pg) (A := an) (H := H29) (s := TT5) (t := 35) (ty := 0) (pu := true) (capd := false) (id := k34) (d := 0) (o := 0) (n := ((allOf (linkL ([]) ([]) (2, (1, ())) (1, (1, ()))) (monM (linkL ([]) ([]) (2, (1, ())) (1, (1, ()))) ([]) 5 (1, (1, ())) (2, (1, ())))).length)) (l := (allOf (linkL ([]) ([]) (2, (1, ())) (1, (1, ()))) (monM (linkL ([]) ([]) (2, (1, ())) (1, (1, ()))) ([]) 5 (1, (1, ())) (2, (1, ()))))) (e := ((allOf (linkL ([]) ([]) (2, (1, ())) (1, (1, ()))) (monM (linkL ([]) ([]) (2, (1, ())) (1, (1, ()))) ([]) 5 (1, (1, ())) (2, (1, ())))).length : Int)) (On.at hs32 6 rfl) (by kernel_rfl) (by first | rfl | omega | (simp only [List.length_nil]; omega) | (simp; done) | (simp; omega))) (And.intro (ob_raw (P := pg) (A := an) (vals := [xi ((allOf (linkL ([]) ([]) (2, (1, ())) (1, (1, ()))) (monM (linkL ([]) ([]) (2, (1, ())) (1, (1, ()))) ([]) 5 (1, (1, ())) (2, (1, ())))).length : Int), xi 2]) (H := H29) (op := .binOp .eql 3 (.tmp 0) (.tmp 1) 3) (ty := 0) (r := xb (beqI (((allOf (linkL ([]) ([]) (2, (1, ())) (1, (1, ()))) (monM (linkL ([]) ([]) (2, (1, ())) (1, (1, ()))) ([]) 5 (1, (1, ())) (2, (1, ())))).length : Int)) (2))) (v := xb true) (by kernel_rfl) (congrArg (fun z => xb z) (beq_t (by omega)))) (And.intro (or_index (P := pg) (A := an) (H := H29) (s := TT5) (t := 35) (el := 41) (ty := 0) (pu := true) (capd := false) (id := k34) (d := 0) (o := 0) (n := ((allOf (linkL ([]) ([]) (2, (1, ())) (1, (1, ()))) (monM (linkL ([]) ([]) (2, (1, ())) (1, (1, ()))) ([]) 5 (1, (1, ())) (2, (1, ())))).length)) (j := 0) (l := (allOf (linkL ([]) ([]) (2, (1, ())) (1, (1, ()))) (monM (linkL ([]) ([]) (2, (1, ())) (1, (1, ()))) ([]) 5 (1, (1, ())) (2, (1, ()))))) (i := 0) (On.at hs32 6 rfl) Try.underlying35 (by kernel_rfl) (by omega) (by first | rfl | omega | (simp only [List.length_nil]; omega) | (simp; done) | (simp; omega)) (by first | rfl | omega | (simp only [List.length_nil]; omega) | (simp; done) | (simp; omega)) (by first | rfl | omega | (simp only [List.length_nil]; omega) | (simp; done) | (simp; omega))) (And.intro (or_load (P := pg) (A := an) (H := H29) (s := TT5) (t := 41) (ty := 0) (pu := true) (id := k34) (d := 0) (j := 0) (o := 0) (n := 5) (l := (allOf (linkL ([]) ([]) (2, (1, ())) (1, (1, ()))) (monM (linkL ([]) ([]) (2, (1, ())) (1, (1, ()))) ([]) 5 (1, (1, ())) (2, (1, ()))))) (x := x35) (v := .agg [vi x35.1, vi x35.2.1.1, vi x35.2.1.2.1, vi x35.2.2.1.1, vi x35.2.2.1.2.1]) (On.at hs32 6 rfl) (by kernel_rfl) (by kernel_rfl) (of_content (L := (allOf (linkL ([]) ([]) (2, (1, ())) (1, (1, ()))) (monM (linkL ([]) ([]) (2, (1, ())) (1, (1, ()))) ([]) 5 (1, (1, ())) (2, (1, ()))))) (o := 0) (n := ((allOf (linkL ([]) ([]) (2, (1, ())) (1, (1, ()))) (monM (linkL ([]) ([]) (2, (1, ())) (1, (1, ()))) ([]) 5 (1, (1, ())) (2, (1, ())))).length)) (dt0 rfl (Nat.le_refl _)) hx35 (by first | rfl | omega | (simp only [List.length_nil]; omega) | (simp; done) | (simp; omega))) (by kernel_rfl)) (And.intro (ob_load_ptr (P := pg) (A := an) (H := H29) (t := 24) (ty := 0) (id := n10) (off := 0) (n := 2) (cs := [vi 1, vi 1]) (cs' := [vi 1, vi 1]) (v := .agg [vi 1, vi 1]) (On.at hs32 2 rfl) (by kernel_rfl) (by kernel_rfl) (by kernel_rfl) (by kernel_rfl)) (And.intro (ob_load_ptr (P := pg) (A := an) (H := H29) (t := 24) (ty := 0) (id := n9) (off := 0) (n := 2) (cs := [vi 2, vi 1]) (cs' := [vi 2, vi 1]) (v := .agg [vi 2, vi 1]) (On.at hs32 1 rfl) (by kernel_rfl) (by kernel_rfl) (by kernel_rfl) (by kernel_rfl)) (And.intro (ob_eq_agg (P := pg) (A := an) (H := H29) (s := TT5) (t := 41) (u := 41) (ty := 0) (x := x35) (y := (0, ((1, (1, ())), ((2, (1, ())), ())))) (r := true) (by kernel_rfl) hb36) (And.intro (ob_load_ptr (P := pg) (A := an) (H := H29) (t := 24) (ty := 0) (id := n10) (off := 0) (n := 2) (cs := [vi 1, vi 1]) (cs' := [vi 1, vi 1]) (v := .agg [vi 1, vi 1]) (On.at hs32 2 rfl) (by kernel_rfl) (by kernel_rfl) (by kernel_rfl) (by kernel_rfl)) (And.intro (ob_call (P := pg) (A := an) (H := H29) (g := 10) (vals := [.y (.one (.ptr n3 0)), .y (.agg [vi 1, vi 1])]) (xs0 := [.one (.ptr n3 0), .agg [vi 1, vi 1]]) (res := [.one (c37)]) (ats := #[]) (ty := 0) (v := .y (.one (c37))) (H' := H40) [.tmp 0, .tmp 1] (by kernel_rfl) (by kernel_rfl) hr41 (by kernel_rfl)) (And.intro (ob_len_own (P := pg) (A := an) (s := PD) (c := c37) (l := (isort ltD (lnkOf (linkL ([]) ([]) (2, (1, ())) (1, (1, ()))) (1, (1, ()))))) (t := 32) (ty := 0) (e := ((isort ltD (lnkOf (linkL ([]) ([]) (2, (1, ())) (1, (1, ()))) (1, (1, ())))).length : Int)) hs42 7 rfl (by kernel_rfl) rfl) (And.intro (ob_raw (P := pg) (A := an) (vals := [xi ((isort ltD (lnkOf (linkL ([]) ([]) (2, (1, ())) (1, (1, ()))) (1, (1, ())))).length : Int), xi 1]) (H := H40) (op := .binOp .eql 3 (.tmp 0) (.tmp 1) 3) (ty := 0) (r := xb (beqI (((isort ltD (lnkOf (linkL ([]) ([]) (2, (1, ())) (1, (1, ()))) (1, (1, ())))).length : Int)) (1))) (v := xb true) (by kernel_rfl) (congrArg (fun z => xb z) (beq_t (by omega)))) (And.intro (ob_load_ptr (P := pg) (A := an) (H := H40) (t := 24) (ty := 0) (id := n9) (off := 0) (n := 2) (cs := [vi 2, vi 1]) (cs' := [vi 2, vi 1]) (v := .agg [vi 2, vi 1]) (On.at hs42 1 rfl) (by kernel_rfl) (by kernel_rfl) (by kernel_rfl) (by kernel_rfl)) (And.intro (ob_load_ptr (P := pg) (A := an) (H := H40) (t := 24) (ty := 0) (id := n9) (off := 0) (n := 2) (cs := [vi 2, vi 1]) (cs' := [vi 2, vi 1]) (v := .agg [vi 2, vi 1]) (On.at hs42 1 rfl) (by kernel_rfl) (by kernel_rfl) (by kernel_rfl) (by kernel_rfl)) (And.intro (ob_call (P := pg) (A := an) (H := H40) (g := 8) (vals := [.y (.one (.ptr n3 0)), .y (.agg [vi 2, vi 1]), .y (.agg [vi 2, vi 1])]) (xs0 := [.one (.ptr n3 0), .agg [vi 2, vi 1], .agg [vi 2, vi 1]]) (res := [.one (vi (linkE (linkL ([]) ([]) (2, (1, ())) (1, (1, ()))) (monM (linkL ([]) ([]) (2, (1, ())) (1, (1, ()))) ([]) 5 (1, (1, ())) (2, (1, ()))) (2, (1, ())) (2, (1, ()))))]) (ats := #[]) (ty := 0) (v := xi (linkE (linkL ([]) ([]) (2, (1, ())) (1, (1, ()))) (monM (linkL ([]) ([]) (2, (1, ())) (1, (1, ()))) ([]) 5 (1, (1, ())) (2, (1, ()))) (2, (1, ())) (2, (1, ())))) (H' := H44) [.tmp 0, .tmp 1, .tmp 2] (by kernel_rfl) (by kernel_rfl) hr45 (by kernel_rfl)) (And.intro (ob_raw (P := pg) (A := an) (vals := [xi (linkE (linkL ([]) ([]) (2, (1, ())) (1, (1, ()))) (monM (linkL ([]) ([]) (2, (1, ())) (1, (1, ()))) ([]) 5 (1, (1, ())) (2, (1, ()))) (2, (1, ())) (2, (1, ()))), xi 1]) (H := H44) (op := .binOp .eql 29 (.tmp 0) (.tmp 1) 29) (ty := 0) (r := xb (beqI ((linkE (linkL ([]) ([]) (2, (1, ())) (1, (1, ()))) (monM (linkL ([]) ([]) (2, (1, ())) (1, (1, ()))) ([]) 5 (1, (1, ())) (2, (1, ()))) (2, (1, ())) (2, (1, ())))) (1))) (v := xb true) (by kernel_rfl) (congrArg (fun z => xb z) (beq_t (by omega)))) trivial))))))))))))))) (by kernel_rfl)) (by kernel_rfl) ?_
  refine Wp.gen (cs := [R, pts n9 (.obj [vi 2, vi 1]), pts n10 (.obj [vi 1, vi 1]), pts k34 (rowO TT5 true 0 (allOf (linkL ([]) ([]) (2, (1, ())) (1, (1, ()))) (monM (linkL ([]) ([]) (2, (1, ())) (1, (1, ()))) ([]) 5 (1, (1, ())) (2, (1, ()))))), ownP PD c37 (isort ltD (lnkOf (linkL ([]) ([]) (2, (1, ())) (1, (1, ()))) (1, (1, ())))), pts n3 (.obj [.mp n1, .mp n2]), pts n1 (lnkO (linkL (linkL ([]) ([]) (2, (1, ())) (1, (1, ()))) (monM (linkL ([]) ([]) (2, (1, ())) (1, (1, ()))) ([]) 5 (1, (1, ())) (2, (1, ()))) (2, (1, ())) (2, (1, ())))), pts n2 (monO (monM (linkL ([]) ([]) (2, (1, ())) (1, (1, ()))) ([]) 5 (1, (1, ())) (2, (1, ()))))]) hs46 ?_
  intro H47 hs48
  refine Wp.ret ?_
  refine ⟨Or.inr rfl, [.one (vb true)], (by kernel_rfl), ?_⟩
  exact ⟨rfl, (On.pick [0] [1, 2, 3, 4, 5, 6, 7] (by kernel_rfl) hs48)⟩
end Go.Proofs.Ytjhgjbagmkiibaa.E
end
