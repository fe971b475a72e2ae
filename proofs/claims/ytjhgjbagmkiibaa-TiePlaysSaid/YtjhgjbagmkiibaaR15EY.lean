/- Lemmas. -/
import Derived.Test.YtjhgjbagmkiibaaR15EU
import Derived.Test.YtjhgjbagmkiibaaR15EG
section
namespace Go.Proofs.Ytjhgjbagmkiibaa.E
open Go.Lg Go.Sort
set_option maxRecDepth 100000
set_option linter.unusedVariables false
set_option linter.unusedSimpArgs false
theorem eqTT {x y : TT5.T} : eqb TT5 x y = true ↔ x = y := eqb_iff (s := TT5) rfl
theorem neqTT {x y : TT5.T} : eqb TT5 x y = false ↔ x ≠ y := by rw [← Bool.not_eq_true, eqTT]
def insT (x : TT5.T) : List TT5.T → List TT5.T
 | [] => [x]
 | y :: r => if aheadB x y = true then x :: y :: r else y :: insT x r
def pinT (x : TT5.T) : List TT5.T → List TT5.T
 | [] => []
 | y :: r => if aheadB x y = true then x :: y :: r else y :: pinT x r
def anyT (x : TT5.T) (l : List TT5.T) : Bool := l.any fun y => aheadB x y
theorem pin_snoc (x y : TT5.T) : ∀ l : List TT5.T, pinT x (l ++ [y]) = if anyT x l = true then pinT x l ++ [y] else if aheadB x y = true then l ++ [x, y] else l ++ [y]
 | [] => by
  simp only [ea_, pinT, anyT, List.any_nil, Bool.false_eq_true, if_false]
 | z :: l => by
  simp only [List.cons_append, pinT]
  have ih := pin_snoc x y l
  cases hz : aheadB x z with
  | true =>
   simp [anyT, hz]
  | false =>
   have : anyT x (z :: l) = anyT x l := by simp [anyT, hz]
   rw [this, ih]
   simp only [Bool.false_eq_true, if_false]
   split
   ·rfl
   ·split <;> rfl
theorem pin_no (x : TT5.T) : ∀ l : List TT5.T, anyT x l = false → pinT x l = l
 | [], _ => rfl
 | y :: l, h => by
  simp only [anyT, List.any_cons, Bool.or_eq_false_iff] at h
  simp only [pinT, h.1, Bool.false_eq_true, if_false, pin_no x l h.2]
theorem ins_pin (x : TT5.T) : ∀ l : List TT5.T, insT x l = if anyT x l = true then pinT x l else l ++ [x]
 | [] => rfl
 | y :: l => by
  simp only [insT, pinT]
  cases hy : aheadB x y with
  | true => simp [anyT, hy]
  | false =>
   have : anyT x (y :: l) = anyT x l := by simp [anyT, hy]
   rw [this, ins_pin x l]
   simp only [Bool.false_eq_true, if_false]
   split <;> rfl
theorem any_snoc (x y : TT5.T) (l : List TT5.T) : anyT x (l ++ [y]) = (anyT x l || aheadB x y) := by
 unfold anyT
 rw [List.any_append]
 simp
theorem put_yes {l : List TT5.T} {x y : TT5.T} {i : Int} (h0 : 0 ≤ i) (hy : l[i.toNat]? = some y) (h : true = anyT x (l.take i.toNat)) : pinT x (l.take i.toNat) ++ [y] = pinT x (l.take (i + 1).toNat) := by
 rw [take_next h0 hy, pin_snoc, if_pos h.symm]
theorem put_new {l : List TT5.T} {x y : TT5.T} {i : Int} (h0 : 0 ≤ i) (hy : l[i.toNat]? = some y) (h : false = anyT x (l.take i.toNat)) (ha : aheadB x y = true) : (pinT x (l.take i.toNat) ++ [x]) ++ [y] = pinT x (l.take (i + 1).toNat) := by
 rw [take_next h0 hy, pin_snoc, if_neg (by rw [← h]; simp), if_pos ha, pin_no x _ h.symm, List.append_assoc]
 rfl
theorem put_no {l : List TT5.T} {x y : TT5.T} {i : Int} (h0 : 0 ≤ i) (hy : l[i.toNat]? = some y) (h : false = anyT x (l.take i.toNat)) (ha : aheadB x y = false) : pinT x (l.take i.toNat) ++ [y] = pinT x (l.take (i + 1).toNat) := by
 rw [take_next h0 hy, pin_snoc, if_neg (by rw [← h]; simp), if_neg (by rw [ha]; simp), pin_no x _ h.symm]
theorem any_next {l : List TT5.T} {x y : TT5.T} {i : Int} {b c : Bool} (h0 : 0 ≤ i) (hy : l[i.toNat]? = some y) (h : b = anyT x (l.take i.toNat)) (ha : (b || aheadB x y) = c) : c = anyT x (l.take (i + 1).toNat) := by
 rw [take_next h0 hy, any_snoc, ← h, ha]
theorem put_end1 {l : List TT5.T} {x : TT5.T} {i : Int} (hi : (l.length : Int) ≤ i) (h : true = anyT x (l.take i.toNat)) : pinT x (l.take i.toNat) = insT x l := by
 rw [take_all hi] at h ⊢
 rw [ins_pin, if_pos h.symm]
theorem put_end2 {l : List TT5.T} {x : TT5.T} {i : Int} (hi : (l.length : Int) ≤ i) (h : false = anyT x (l.take i.toNat)) : pinT x (l.take i.toNat) ++ [x] = insT x l := by
 rw [take_all hi] at h ⊢
 rw [ins_pin, if_neg (by rw [← h]; simp), pin_no x _ h.symm]
theorem pin_len (x : TT5.T) : ∀ l : List TT5.T, (pinT x l).length ≤ l.length + 1
 | [] => Nat.zero_le _
 | y :: l => by
  have := pin_len x l
  unfold pinT
  split
  ·simp
  ·simp only [en_]; omega
theorem pinT_len (x : TT5.T) (l : List TT5.T) {i : Int} (h0 : 0 ≤ i) : ((pinT x (l.take i.toNat)).length : Int) ≤ i + 1 := by
 have h1 := pin_len x (l.take i.toNat)
 have h2 := List.length_take_le i.toNat l
 omega
def lessT (l : List TT5.T) (x : TT5.T) : List TT5.T := l.filter fun y => !eqb TT5 y x
theorem less_yes {l : List TT5.T} {x y : TT5.T} {i : Int} (h0 : 0 ≤ i) (hy : l[i.toNat]? = some y) (h : eqb TT5 y x = false) : lessT (l.take i.toNat) x ++ [y] = lessT (l.take (i + 1).toNat) x := by
 unfold lessT
 rw [filt_yes h0 hy (by rw [h]; rfl)]
theorem less_no {l : List TT5.T} {x y : TT5.T} {i : Int} (h0 : 0 ≤ i) (hy : l[i.toNat]? = some y) (h : eqb TT5 y x = true) : lessT (l.take i.toNat) x = lessT (l.take (i + 1).toNat) x := by
 unfold lessT
 rw [filt_no h0 hy (by rw [h]; rfl)]
theorem lessT_len (l : List TT5.T) (x : TT5.T) {i : Int} (h0 : 0 ≤ i) : ((lessT (l.take i.toNat) x).length : Int) ≤ i := filt_len _ l h0
theorem ins_perm (x : TT5.T) : ∀ l : List TT5.T, (insT x l).Perm (x :: l)
 | [] => .refl _
 | y :: r => by
  unfold insT
  split
  ·exact .refl _
  ·exact ((ins_perm x r).cons y).trans (.swap _ _ _)
theorem mem_ins {x y : TT5.T} {l : List TT5.T} : y ∈ insT x l ↔ y = x ∨ y ∈ l := by
 rw [(ins_perm x l).mem_iff, List.mem_cons]
theorem ins_srt {x : TT5.T} : ∀ {l : List TT5.T}, Srt l → (∀ y ∈ l, aheadB x y = true ∨ aheadB y x = true) → Srt (insT x l)
 | [], _, _ => by simp [insT]
 | y :: r, h, hc => by
  obtain ⟨h1, h2⟩ := List.pairwise_cons.1 h
  unfold insT
  split
  ·rename_i hxy
   refine List.pairwise_cons.2 ⟨fun z hz => ?_, h⟩
   rcases List.mem_cons.1 hz with e | hz
   ·rw [e]; exact hxy
   ·exact ahead_trans _ _ _ hxy (h1 z hz)
  ·rename_i hxy
   have hyx := (hc y (by simp)).resolve_left hxy
   refine List.pairwise_cons.2 ⟨fun z hz => ?_, ins_srt h2 fun z hz => hc z (List.mem_cons_of_mem _ hz)⟩
   rcases mem_ins.1 hz with e | hz
   ·rw [e]; exact hyx
   ·exact h1 z hz
theorem ahead_or {x y : TT5.T} (h : x ≠ y) (hr : isZ x = false → isZ y = false → x.1 ≠ y.1) : aheadB x y = true ∨ aheadB y x = true := by
 cases hx : isZ x with
 | true =>
  cases hy : isZ y with
  | false => exact .inl (ahead_zr hx hy)
  | true =>
   rw [ahead_zz hx hy, ahead_zz hy hx]
   by_cases e : x.2.1 = y.2.1
   ·have h2 : x.2.2.1 ≠ y.2.2.1 := fun e2 => h (Prod.ext ((isZ_iff.1 hx).trans (isZ_iff.1 hy).symm) (Prod.ext e (Prod.ext e2 rfl)))
    rcases lt_or h2 with e2 | e2
    ·exact .inl (.inr ⟨e, e2⟩)
    ·exact .inr (.inr ⟨e.symm, e2⟩)
   ·rcases lt_or e with e2 | e2
    ·exact .inl (.inl e2)
    ·exact .inr (.inl e2)
 | false =>
  cases hy : isZ y with
  | true => exact .inr (ahead_zr hy hx)
  | false =>
   rw [ahead_rr hx hy, ahead_rr hy hx]
   exact Int.lt_or_gt_of_ne (hr hx hy)
theorem tieL_in {L : List PR.T} {M : List TI.T} (h : TieInv L M) {q : PR.T} : (tieL q) ∈ allOf L M ↔ q ∈ L := by
 rw [allOf_mem h.uq]
 constructor
 ·rintro (⟨_, h1⟩ | h1)
  ·exact h1
  ·have := h.nz _ h1
   rw [show isZ (tieL q) = true from isZ_iff.2 rfl] at this; cases this
 ·exact fun h1 => .inl ⟨isZ_iff.2 rfl, h1⟩
theorem has_is {L : List PR.T} {M : List TI.T} (h : TieInv L M) (q : PR.T) : memB TT5 (tieL q) (allOf L M) = memB PR q L := by
 rw [Bool.eq_iff_iff, memB_iff (s := TT5) rfl, memB_iff (s := PR) rfl, tieL_in h]
theorem put_link {L : List PR.T} {M : List TI.T} (h : TieInv L M) {q : PR.T} (hq : memB PR q L = false) (hi : TieInv (lins L q) M) : allOf (lins L q) M = insT (tieL q) (allOf L M) := by
 have hq : q ∉ L := fun hin => by rw [(memB_iff (s := PR) rfl).2 hin] at hq; cases hq
 refine srt_eq hi.srt (ins_srt h.srt fun y hy => ahead_or ?_ fun hz => ?_) fun x => ?_
 ·rintro rfl
  exact hq ((tieL_in h).1 hy)
 ·rw [show isZ (tieL q) = true from isZ_iff.2 rfl] at hz; cases hz
 ·rw [mem_ins, allOf_mem h.uq, allOf_mem h.uq, mem_lins]
  constructor
  ·rintro (⟨h1, h2 | h2⟩ | h1)
   ·exact .inr (.inl ⟨h1, h2⟩)
   ·exact .inl (Prod.ext (isZ_iff.1 h1) h2)
   ·exact .inr (.inr h1)
  ·rintro (rfl | ⟨h1, h2⟩ | h1)
   ·exact .inl ⟨isZ_iff.2 rfl, .inr rfl⟩
   ·exact .inl ⟨h1, .inl h2⟩
   ·exact .inr h1
theorem less_link {L : List PR.T} {M : List TI.T} (h : TieInv L M) (q : PR.T) : allOf (ldel L q) M = lessT (allOf L M) (tieL q) := by
 refine srt_eq (allOf_srt (h.nd.filter _) h.uq h.nz) (h.srt.filter _) fun x => ?_
 unfold lessT
 rw [List.mem_filter, allOf_mem h.uq, allOf_mem h.uq, mem_ldel, Bool.not_eq_true', neqTT]
 constructor
 ·rintro (⟨h1, h2, h3⟩ | h1)
  ·exact ⟨.inl ⟨h1, h2⟩, fun e => h3 (by rw [e]; rfl)⟩
  ·exact ⟨.inr h1, fun e => by have := h.nz x h1; rw [e, show isZ (tieL q) = true from isZ_iff.2 rfl] at this; cases this⟩
 ·rintro ⟨⟨h1, h2⟩ | h1, h3⟩
  ·exact .inl ⟨h1, h2, fun e => h3 (Prod.ext (isZ_iff.1 h1) e.symm)⟩
  ·exact .inr h1
theorem put_mon {L : List PR.T} {M : List TI.T} (h : TieInv L M) {r : Int} {w : PR.T} (hr : 1 ≤ r) (hk : keyB r M = false) : allOf L (mins M r w) = insT ((r, w) : TT5.T) (allOf L M) := by
 have hk : ∀ y ∈ M, r ≠ y.1 := fun y hy e => by
  rw [show keyB r M = true from List.any_eq_true.2 ⟨y, hy, by simp [e]⟩] at hk; cases hk
 have hz : isZ ((r, w) : TT5.T) = false := isZ_no.2 (show r ≠ 0 by omega)
 refine srt_eq (allOf_srt h.nd (mins_uq h.uq) fun y hy => ?_) (ins_srt h.srt fun y hy => ahead_or ?_ fun _ hy2 => ?_) fun x => ?_
 ·rcases mem_mins.1 hy with hy | rfl
  ·exact h.nz y hy.1
  ·exact hz
 ·rintro rfl
  exact hk _ (inM h hy hz) rfl
 ·exact hk y (inM h hy hy2)
 ·rw [mem_ins, allOf_mem (mins_uq h.uq), allOf_mem h.uq, mem_mins]
  constructor
  ·rintro (h1 | ⟨h1, _⟩ | h1)
   ·exact .inr (.inl h1)
   ·exact .inr (.inr h1)
   ·exact .inl h1
  ·rintro (h1 | h1 | h1)
   ·exact .inr (.inr h1)
   ·exact .inl h1
   ·exact .inr (.inl ⟨h1, hk x h1⟩)
theorem less_mon {L : List PR.T} {M : List TI.T} (h : TieInv L M) {y : TT5.T} (hy : y ∈ allOf L M) (hr : 0 < y.1) : allOf L (mdel M y.1) = lessT (allOf L M) y := by
 have hz : isZ y = false := isZ_no.2 (show y.1 ≠ (0 : Int) from fun e => by rw [e] at hr; exact absurd hr (by decide))
 have hin := inM h hy hz
 refine srt_eq (allOf_srt h.nd (mdel_uq _ h.uq) fun z hz => h.nz z (mem_mdel.1 hz).1) (h.srt.filter _) fun x => ?_
 unfold lessT
 rw [List.mem_filter, allOf_mem (mdel_uq _ h.uq), allOf_mem h.uq, mem_mdel, Bool.not_eq_true', neqTT]
 constructor
 ·rintro (⟨h1, h2⟩ | ⟨h1, h2⟩)
  ·exact ⟨.inl ⟨h1, h2⟩, fun e => by rw [e, hz] at h1; cases h1⟩
  ·exact ⟨.inr h1, fun e => h2 (by rw [e])⟩
 ·rintro ⟨⟨h1, h2⟩ | h1, h3⟩
  ·exact .inl ⟨h1, h2⟩
  ·exact .inr ⟨h1, fun e => h3 (inj_of_nodup h.uq x h1 y hin e.symm)⟩
def hasR (l : List TT5.T) (r : Int) : Bool := l.any fun y => decide (0 < r) && decide (IEq y.1 r)
theorem hasR_is {L : List PR.T} {M : List TI.T} (h : TieInv L M) (r : Int) : hasR (allOf L M) r = keyB r M := by
 rw [Bool.eq_iff_iff]
 unfold hasR keyB
 rw [List.any_eq_true, List.any_eq_true]
 constructor
 ·rintro ⟨y, hy, h1⟩
  simp only [kA, decide_eq_true_eq] at h1
  have e : y.1 = r := h1.2
  exact ⟨y, inM h hy (isZ_no.2 fun e2 => by have h2 := h1.1; rw [← e, show y.1 = (0 : Int) from e2] at h2; exact absurd h2 (by decide)), by simp [e]⟩
 ·rintro ⟨y, hy, h1⟩
  have e : r = y.1 := by simpa using h1
  have := (h.mn y hy).1.1
  exact ⟨y, (allOf_mem h.uq).2 (.inr hy), by
   rw [kA]
   exact ⟨decide_eq_true (by rw [e]; exact Int.lt_of_lt_of_le (by decide : (0 : Int) < 1) this), decide_eq_true e.symm⟩⟩
theorem hasR_at {l : List TT5.T} {r : Int} {i : Nat} {y : TT5.T} (hy : l[i]? = some y) (h0 : 0 < r) (he : IEq y.1 r) : true = hasR l r := (List.any_eq_true.2 ⟨y, List.mem_of_getElem? hy, by rw [kA]; exact ⟨decide_eq_true h0, decide_eq_true he⟩⟩).symm
theorem hasR_step {l : List TT5.T} {r : Int} {i : Int} {y : TT5.T} (h0 : 0 ≤ i) (h : hasR (l.take i.toNat) r = false) (hy : l[i.toNat]? = some y) (hn : ¬ 0 < r ∨ ¬ IEq y.1 r) : hasR (l.take (i + 1).toNat) r = false := by
 rw [take_next h0 hy]
 unfold hasR at h ⊢
 rw [List.any_append, h]
 rcases hn with hn | hn
 ·simp [hn]
 ·simp [hn]
theorem hasR_low (l : List TT5.T) {r : Int} (h : ¬ 0 < r) : hasR l r = false := by
 unfold hasR
 rw [List.any_eq_false]
 intro y _ hp
 rw [kA] at hp
 exact h (of_decide_eq_true hp.1)
theorem hasR_end {l : List TT5.T} {r : Int} {i : Int} (hi : (l.length : Int) ≤ i) (h : hasR (l.take i.toNat) r = false) : false = hasR l r := by
 rw [take_all hi] at h
 exact h.symm
def findT (l : List TT5.T) (r : Int) : TT5.T := match l.find? (fun y => decide (0 < r) && decide (IEq y.1 r)) with
 | some y => y
 | none => (0, ((0, (0, ())), ((0, (0, ())), ())))
theorem findT_at {l : List TT5.T} {r : Int} {i : Int} {y : TT5.T} (h : hasR (l.take i.toNat) r = false) (hy : l[i.toNat]? = some y) (h0 : 0 < r) (he : IEq y.1 r) : findT l r = y := by
 unfold findT
 have hl : l = l.take i.toNat ++ y :: l.drop (i.toNat + 1) := by
  obtain ⟨hi, e⟩ := List.getElem?_eq_some_iff.1 hy
  rw [← e, ← List.drop_eq_getElem_cons hi, List.take_append_drop]
 have h1 : (l.take i.toNat).find? (fun y => decide (0 < r) && decide (IEq y.1 r)) = none := by
  rw [List.find?_eq_none]
  intro z hz hp
  unfold hasR at h
  rw [List.any_eq_false] at h
  exact h z hz hp
 rw [hl, List.find?_append, h1, Option.none_or, List.find?_cons_of_pos (by rw [kA]; exact ⟨decide_eq_true h0, decide_eq_true he⟩)]
theorem findT_none {l : List TT5.T} {r : Int} (h : hasR l r = false) : findT l r = (0, ((0, (0, ())), ((0, (0, ())), ()))) := by
 unfold findT
 have h1 : l.find? (fun y => decide (0 < r) && decide (IEq y.1 r)) = none := by
  rw [List.find?_eq_none]
  intro z hz hp
  unfold hasR at h
  rw [List.any_eq_false] at h
  exact h z hz hp
 rw [h1]
theorem findT_is {l : List TT5.T} {r : Int} (h : hasR l r = true) : findT l r ∈ l ∧ 0 < r ∧ (findT l r).1 = r := by
 unfold findT
 cases e : l.find? (fun y => decide (0 < r) && decide (IEq y.1 r)) with
 | none =>
  rw [List.find?_eq_none] at e
  obtain ⟨z, hz, hp⟩ := List.any_eq_true.1 h
  exact absurd hp (e z hz)
 | some y =>
  have h1 := List.mem_of_find?_eq_some e
  have h2 := List.find?_some e
  simp only [kA, decide_eq_true_eq] at h2
  exact ⟨h1, h2.1, h2.2⟩
def goneT (l : List TT5.T) (a : PD.T) : List TT5.T := l.filter fun y => !eqb PD y.2.1 a && !eqb PD y.2.2.1 a
def toldT (l : List TT5.T) (a : PD.T) : List TT5.T := l.filter fun y => (isR y && eqb PD y.2.2.1 a) && !eqb PD y.2.1 a
theorem gone_is {L : List PR.T} {M : List TI.T} (h : TieInv L M) (a : PD.T) : allOf (goneL L a) (goneM M a) = goneT (allOf L M) a := by
 refine srt_eq (inv_gone h a).srt (h.srt.filter _) fun x => ?_
 unfold goneT
 rw [List.mem_filter, allOf_mem (inv_gone h a).uq, allOf_mem h.uq, goneL_is h, goneM_is h.uq, List.mem_filter, List.mem_filter]
 unfold q36
 simp only [kA, Bool.not_eq_true', Bool.or_eq_false_iff]
 constructor
 ·rintro (⟨h1, h2, h3⟩ | ⟨h1, h2⟩)
  ·exact ⟨.inl ⟨h1, h2⟩, h3⟩
  ·exact ⟨.inr h1, h2⟩
 ·rintro ⟨⟨h1, h2⟩ | h1, h3⟩
  ·exact .inl ⟨h1, h2, h3⟩
  ·exact .inr ⟨h1, h3⟩
theorem told_is {L : List PR.T} {M : List TI.T} (h : TieInv L M) (a : PD.T) : toldT (allOf L M) a = toldG M a := by
 refine eq_of_sorted (lt := fun x y => decide (ILt x.1 y.1)) ltR_irrefl (fun x y z h1 h2 => decide_eq_true (Int.lt_trans (of_decide_eq_true h1) (of_decide_eq_true h2))) ?_ ((told_sorted (q := q35 a) h.uq).imp fun h => decide_eq_true h) ?_
 ·unfold toldT
  refine (List.Pairwise.and_mem.1 (h.srt.filter _)).imp fun {x y} hxy => ?_
  obtain ⟨hx, hy, h3⟩ := hxy
  have nz : ∀ x ∈ (allOf L M).filter (fun y => (isR y && eqb PD y.2.2.1 a) && !eqb PD y.2.1 a), isZ x = false := by
   intro x hx
   have := (List.mem_filter.1 hx).2
   simp only [kA] at this
   have : ILt 0 x.1 := of_decide_eq_true this.1.1
   exact isZ_no.2 fun e => by rw [show x.1 = (0 : Int) from e] at this; exact absurd this (by decide)
  exact decide_eq_true ((ahead_rr (nz x hx) (nz y hy)).1 h3)
 ·intro x
  unfold toldT toldG
  rw [told_mem h.uq, List.mem_filter, kA, kA]
  unfold q35
  rw [kA]
  have e : (!eqb PR x.2 ((a, (a, ())) : PR.T)) = true ↔ x.2 ≠ ((a, (a, ())) : PR.T) := by
   rw [Bool.not_eq_true', ← Bool.not_eq_true, eqPR_iff]
  rw [e]
  constructor
  ·rintro ⟨h1, ⟨h2, h3⟩, h4⟩
   have h2 : ILt 0 x.1 := of_decide_eq_true h2
   refine ⟨inM h h1 (isZ_no.2 fun e => by rw [show x.1 = (0 : Int) from e] at h2; exact absurd h2 (by decide)), h3, fun e2 => ?_⟩
   rw [Bool.not_eq_true', neqPD] at h4
   exact h4 (by rw [show x.2.1 = (x.2 : PR.T).1 from rfl, e2])
  ·rintro ⟨h1, h2, h3⟩
   refine ⟨(allOf_mem h.uq).2 (.inr h1), ⟨decide_eq_true (show ILt 0 x.1 from by have := (h.mn x h1).1.1; exact this), h2⟩, ?_⟩
   rw [Bool.not_eq_true', neqPD]
   intro e2
   have e3 : x.2.2.1 = a := eqPD.1 h2
   exact h3 (Prod.ext e2 (Prod.ext e3 rfl))
end Go.Proofs.Ytjhgjbagmkiibaa.E
end
section
namespace Go.Proofs.Ytjhgjbagmkiibaa.E
open Go.Lg
set_option linter.unusedVariables false
set_option maxRecDepth 100000
set_option maxHeartbeats 8000000
set_option linter.unusedSimpArgs false
theorem pair_of_lt {a b : PD.T} (h : ltD a b = true) : pairOf a b = ((a, (b, ())) : PR.T) := (pair_lt h).1
theorem pair_of_ge {a b : PD.T} (h : ltD a b = false) : pairOf a b = ((b, (a, ())) : PR.T) := by
  by_cases e : a = b
  · subst e
    unfold pairOf
    split <;> rfl
  · rcases lt_or e with e2 | e2
    · rw [h] at e2; cases e2
    · exact (pair_lt e2).2
theorem has_next {x : TT5.T} {l : List TT5.T} {i : Int} {y : TT5.T} (h0 : 0 ≤ i) (h : x ∉ l.take i.toNat) (hx : l[i.toNat]? = some y) (e : eqb TT5 y x = false) : x ∉ l.take (i + 1).toNat := by
  rw [take_next h0 hx, List.mem_append]
  rintro (h' | h')
  · exact h h'
  · rw [List.mem_singleton] at h'
    exact neqTT.1 e h'.symm
theorem has_at {x : TT5.T} {l : List TT5.T} {i : Nat} {y : TT5.T} (hx : l[i]? = some y) (e : eqb TT5 y x = true) : true = memB TT5 x l := by
  have := eqTT.1 e
  subst this
  exact ((memB_iff (s := TT5) rfl).2 (List.mem_of_getElem? hx)).symm
theorem has_not {x : TT5.T} {l : List TT5.T} {i : Int} (h : x ∉ l.take i.toNat) (hi : (l.length : Int) ≤ i) : false = memB TT5 x l := by
  rw [take_all hi] at h
  cases e : memB TT5 x l with
  | false => rfl
  | true => exact absurd ((memB_iff (s := TT5) rfl).1 e) h
theorem rpair_ok (a b : PD.T)  : PureC pg an 57 [.agg [vi a.1, vi a.2.1], .agg [vi b.1, vi b.2.1]] [.one (vb (!badP a b))] := by
 refine rOF Try.func57 rfl ?_
 obtain ⟨n1, hn1⟩ := lX []
 obtain ⟨n2, hn2⟩ := lX ([] ++ [.obj [vi a.1, vi a.2.1]])
 refine rGz [(2, yp n1), (3, yp n2)] (On.new' hn2 (.obj [vi b.1, vi b.2.1]) (On.new' hn1 (.obj [vi a.1, vi a.2.1]) (On.nil []))) (zA 0 (qB 24 [vi a.1, vi a.2.1] hn1) (zL 1 (qB 24 [vi b.1, vi b.2.1] hn2))) fun H3 hs4 => ?_
 rcases Bool.eq_false_or_eq_true ((mayP a)) with c5 | c5
 ·
  rcases Bool.eq_false_or_eq_true ((mayP b)) with c6 | c6
  ·
   rcases Bool.eq_false_or_eq_true ((eqb PD a b)) with c7 | c7
   ·
    refine rSz [(4, xb false)] H3 (zA 0 (qL 24 0 (.agg [vi a.1, vi a.2.1]) (On.at hs4 0 rfl)) (zA 1 (Jc (H := H3) (g := 54) (x := .agg [vi a.1, vi a.2.1]) (res := [.one (vb true)]) (by have h9 := rpid_ok a; rw [c5] at h9; exact h9) (by kernel_rfl) (by kernel_rfl)) (zA 3 (qL 24 0 (.agg [vi b.1, vi b.2.1]) (On.at hs4 1 rfl)) (zA 4 (Jc (H := H3) (g := 54) (x := .agg [vi b.1, vi b.2.1]) (res := [.one (vb true)]) (by have h9 := rpid_ok b; rw [c6] at h9; exact h9) (by kernel_rfl) (by kernel_rfl)) (zA 7 (qL 24 0 (.agg [vi a.1, vi a.2.1]) (On.at hs4 0 rfl)) (zA 8 (qL 24 0 (.agg [vi b.1, vi b.2.1]) (On.at hs4 1 rfl)) (zL 9 (Jg (H := H3) (s := PD) (t := 24) (u := 24) (ty := 0) (x := a) (y := b) (r := false) (by kernel_rfl) c7)))))))) ?_
    refine wE ?_
    refine ⟨Or.inr rfl, [.one (vb false)], (by kernel_rfl), ?_⟩
    exact congrArg (fun z => some [Y.one (vb z)]) (show false = !badP a b by unfold badP; simp only [c5, c6, c7, if_true, if_false, Bool.false_eq_true, decide_true, decide_false, Bool.not_true, Bool.not_false, Bool.and_true, Bool.and_false, Bool.true_and, Bool.false_and, Bool.or_true, Bool.or_false, Bool.true_or, Bool.false_or])
   refine rSz [(4, xb true)] H3 (zA 0 (qL 24 0 (.agg [vi a.1, vi a.2.1]) (On.at hs4 0 rfl)) (zA 1 (Jc (H := H3) (g := 54) (x := .agg [vi a.1, vi a.2.1]) (res := [.one (vb true)]) (by have h9 := rpid_ok a; rw [c5] at h9; exact h9) (by kernel_rfl) (by kernel_rfl)) (zA 3 (qL 24 0 (.agg [vi b.1, vi b.2.1]) (On.at hs4 1 rfl)) (zA 4 (Jc (H := H3) (g := 54) (x := .agg [vi b.1, vi b.2.1]) (res := [.one (vb true)]) (by have h9 := rpid_ok b; rw [c6] at h9; exact h9) (by kernel_rfl) (by kernel_rfl)) (zA 7 (qL 24 0 (.agg [vi a.1, vi a.2.1]) (On.at hs4 0 rfl)) (zA 8 (qL 24 0 (.agg [vi b.1, vi b.2.1]) (On.at hs4 1 rfl)) (zL 9 (Jg (H := H3) (s := PD) (t := 24) (u := 24) (ty := 0) (x := a) (y := b) (r := true) (by kernel_rfl) c7)))))))) ?_
   refine wE ?_
   refine ⟨Or.inr rfl, [.one (vb true)], (by kernel_rfl), ?_⟩
   exact congrArg (fun z => some [Y.one (vb z)]) (show true = !badP a b by unfold badP; simp only [c5, c6, c7, if_true, if_false, Bool.false_eq_true, decide_true, decide_false, Bool.not_true, Bool.not_false, Bool.and_true, Bool.and_false, Bool.true_and, Bool.false_and, Bool.or_true, Bool.or_false, Bool.true_or, Bool.false_or])
  refine rSz [(4, xb false)] H3 (zA 0 (qL 24 0 (.agg [vi a.1, vi a.2.1]) (On.at hs4 0 rfl)) (zA 1 (Jc (H := H3) (g := 54) (x := .agg [vi a.1, vi a.2.1]) (res := [.one (vb true)]) (by have h9 := rpid_ok a; rw [c5] at h9; exact h9) (by kernel_rfl) (by kernel_rfl)) (zA 3 (qL 24 0 (.agg [vi b.1, vi b.2.1]) (On.at hs4 1 rfl)) (zL 4 (Jc (H := H3) (g := 54) (x := .agg [vi b.1, vi b.2.1]) (res := [.one (vb false)]) (by have h9 := rpid_ok b; rw [c6] at h9; exact h9) (by kernel_rfl) (by kernel_rfl)))))) ?_
  refine wE ?_
  refine ⟨Or.inr rfl, [.one (vb false)], (by kernel_rfl), ?_⟩
  exact congrArg (fun z => some [Y.one (vb z)]) (show false = !badP a b by unfold badP; simp only [c5, c6, if_true, if_false, Bool.false_eq_true, decide_true, decide_false, Bool.not_true, Bool.not_false, Bool.and_true, Bool.and_false, Bool.true_and, Bool.false_and, Bool.or_true, Bool.or_false, Bool.true_or, Bool.false_or])
 refine rSz [(4, xb false)] H3 (zA 0 (qL 24 0 (.agg [vi a.1, vi a.2.1]) (On.at hs4 0 rfl)) (zL 1 (Jc (H := H3) (g := 54) (x := .agg [vi a.1, vi a.2.1]) (res := [.one (vb false)]) (by have h9 := rpid_ok a; rw [c5] at h9; exact h9) (by kernel_rfl) (by kernel_rfl)))) ?_
 refine wE ?_
 refine ⟨Or.inr rfl, [.one (vb false)], (by kernel_rfl), ?_⟩
 exact congrArg (fun z => some [Y.one (vb z)]) (show false = !badP a b by unfold badP; simp only [c5, if_true, if_false, Bool.false_eq_true, decide_true, decide_false, Bool.not_true, Bool.not_false, Bool.and_true, Bool.and_false, Bool.true_and, Bool.false_and, Bool.or_true, Bool.or_false, Bool.true_or, Bool.false_or])
theorem rlink_q (a b : PD.T) (q : PR.T) (hq : q = pairOf a b)  : PureC pg an 59 [.agg [vi a.1, vi a.2.1], .agg [vi b.1, vi b.2.1]] [.agg [vi 0, vi q.1.1, vi q.1.2.1, vi q.2.1.1, vi q.2.1.2.1]] := by
 refine rOF Try.func59 rfl ?_
 obtain ⟨n1, hn1⟩ := lX []
 obtain ⟨n2, hn2⟩ := lX ([] ++ [.obj [vi a.1, vi a.2.1]])
 obtain ⟨n3, hn3⟩ := lX (([] ++ [.obj [vi a.1, vi a.2.1]]) ++ [.obj [vi b.1, vi b.2.1]])
 refine rGz [(2, yp n1), (3, yp n2), (4, yp n3)] (On.new' hn3 (.obj [vi 0, vi 0, vi 0, vi 0, vi 0]) (On.new' hn2 (.obj [vi b.1, vi b.2.1]) (On.new' hn1 (.obj [vi a.1, vi a.2.1]) (On.nil [])))) (zA 0 (qB 24 [vi a.1, vi a.2.1] hn1) (zA 1 (qB 24 [vi b.1, vi b.2.1] hn2) (zL 2 (qO 41 [vi 0, vi 0, vi 0, vi 0, vi 0] hn3)))) fun H4 hs5 => ?_
 refine wS ?_
 rcases Bool.eq_false_or_eq_true ((ltD a b)) with c6 | c6
 ·
  refine rSz [(2, yp n1), (3, yp n2), (4, yp n3), (7, xb true)] H4 (zA 0 (qL 24 0 (.agg [vi a.1, vi a.2.1]) (On.at hs5 0 rfl)) (zA 1 (qL 24 0 (.agg [vi b.1, vi b.2.1]) (On.at hs5 1 rfl)) (zL 2 (Jd (H := H4) (g := 55) (x := .agg [vi a.1, vi a.2.1]) (y := .agg [vi b.1, vi b.2.1]) (res := [.one (vb true)]) (by have h9 := before_ok a b; rw [c6] at h9; exact h9) (by kernel_rfl) (by kernel_rfl))))) ?_
  refine wTa ?_
  refine rGz [(4, yp n3)] (On.put (.obj [vi 0, vi a.1, vi a.2.1, vi b.1, vi b.2.1]) hs5 2 rfl) (zA 0 (qL 24 0 (.agg [vi a.1, vi a.2.1]) (On.at hs5 0 rfl)) (zA 1 (qL 24 0 (.agg [vi b.1, vi b.2.1]) (On.at hs5 1 rfl)) (zL 3 (qS 41 0 (.agg [vi 0, vi a.1, vi a.2.1, vi b.1, vi b.2.1]) (On.at hs5 2 rfl))))) fun H7 hs8 => ?_
  refine wE ?_
  refine ⟨Or.inr rfl, [.agg [vi 0, vi a.1, vi a.2.1, vi b.1, vi b.2.1]], (rC (On.at hs8 2 rfl)), ?_⟩
  have e := hq.trans (pair_of_lt c6)
  subst e
  rfl
 refine rSz [(2, yp n1), (3, yp n2), (4, yp n3), (7, xb false)] H4 (zA 0 (qL 24 0 (.agg [vi a.1, vi a.2.1]) (On.at hs5 0 rfl)) (zA 1 (qL 24 0 (.agg [vi b.1, vi b.2.1]) (On.at hs5 1 rfl)) (zL 2 (Jd (H := H4) (g := 55) (x := .agg [vi a.1, vi a.2.1]) (y := .agg [vi b.1, vi b.2.1]) (res := [.one (vb false)]) (by have h9 := before_ok a b; rw [c6] at h9; exact h9) (by kernel_rfl) (by kernel_rfl))))) ?_
 refine wFk ?_
 refine rGz [(4, yp n3)] (On.put (.obj [vi 0, vi b.1, vi b.2.1, vi a.1, vi a.2.1]) hs5 2 rfl) (zA 0 (qL 24 0 (.agg [vi b.1, vi b.2.1]) (On.at hs5 1 rfl)) (zA 1 (qL 24 0 (.agg [vi a.1, vi a.2.1]) (On.at hs5 0 rfl)) (zL 3 (qS 41 0 (.agg [vi 0, vi b.1, vi b.2.1, vi a.1, vi a.2.1]) (On.at hs5 2 rfl))))) fun H9 hs10 => ?_
 refine wE ?_
 refine ⟨Or.inr rfl, [.agg [vi 0, vi b.1, vi b.2.1, vi a.1, vi a.2.1]], (rC (On.at hs10 2 rfl)), ?_⟩
 have e := hq.trans (pair_of_ge c6)
 subst e
 rfl
theorem has_ok (rb rn rp : Bool) (l : List TT5.T) (hl : (l.length : Int) ≤ 1000000000) (w0 : TT5.T)  : PureC pg an 58 [.agg [vb true, sv TT5 rb rn rp l], .agg [vi w0.1, vi w0.2.1.1, vi w0.2.1.2.1, vi w0.2.2.1.1, vi w0.2.2.1.2.1]] [.one (vb (memB TT5 w0 l))] := by
 refine rOF Try.func58 rfl ?_
 obtain ⟨n1, hn1⟩ := lX []
 obtain ⟨n2, hn2⟩ := lX ([] ++ [.obj [vb true, sv TT5 rb rn rp l]])
 refine rGz [(2, yp n1), (3, yp n2)] (On.new' hn2 (.obj [vi w0.1, vi w0.2.1.1, vi w0.2.1.2.1, vi w0.2.2.1.1, vi w0.2.2.1.2.1]) (On.new' hn1 (.obj [vb true, sv TT5 rb rn rp l]) (On.nil []))) (zA 0 (qB 48 [vb true, sv TT5 rb rn rp l] hn1) (zL 1 (qB 41 [vi w0.1, vi w0.2.1.1, vi w0.2.1.2.1, vi w0.2.2.1.1, vi w0.2.2.1.2.1] hn2))) fun H3 hs4 => ?_
 refine wS ?_
 refine rs0 [(2, yp n1), (3, yp n2), (5, xi 0)] ?_
 refine wB ?_
 refine Wp.loop (T := HH × Int) (fun t => match t with | (H6, i) => (((l.length : Int) - i).toNat : Nat)) (fun t => match t with | (H6, i) => ([(2, yp n1), (3, yp n2), (5, xi i)] : Env)) (fun t => match t with | (H6, i) => (H6 : HH))
   (fun t => match t with | (H6, i) => (On [pts n1 (.obj [vb true, sv TT5 rb rn rp l]), pts n2 (.obj [vi w0.1, vi w0.2.1.1, vi w0.2.1.2.1, vi w0.2.2.1.1, vi w0.2.2.1.2.1])] H6 ∧ (0 ≤ i) ∧ (i ≤ (l.length : Int)) ∧ (w0 ∉ l.take i.toNat) : Prop)) (H3, 0) (by kernel_rfl) (⟨(On.pick [0, 1] [] (by kernel_rfl) hs4), by omega, by omega, by simp⟩) ?_
 rintro ⟨H6, i⟩ ⟨hs7, h1, h2, h3⟩
 show Wp _ _ _ _ [(2, yp n1), (3, yp n2), (5, xi i)] H6 _
 refine wS ?_
 rcases ilt (i) ((l.length : Int)) with c8 | c8
 ·
  refine rSz [(2, yp n1), (3, yp n2), (5, xi i), (10, xb true)] H6 (zA 2 (qL 35 1 (.one (sv TT5 rb rn rp l)) (On.at hs7 0 rfl)) (zL 4 (qlssT H6 i (l.length : Int)))) ?_
  refine wTk ?_
  refine wS (wB ?_)
  obtain ⟨x9, hx9⟩ : ∃ x, l[(i : Int).toNat]? = some x := get_of (by omega)
  rcases Bool.eq_false_or_eq_true ((eqb TT5 x9 w0)) with c10 | c10
  ·
   refine rSz [(2, yp n1), (3, yp n2), (5, xi i), (19, xb true)] H6 (zA 1 (qL 35 1 (.one (sv TT5 rb rn rp l)) (On.at hs7 0 rfl)) (zA 3 (Jb (H := H6) (s := TT5) (b := rb) (nil := rn) (capd := rp) (t := 35) (el := 41) (i := i) Try.underlying35 (by kernel_rfl) (by kernel_rfl) (by omega) hx9) (zA 5 (qA 41 (On.at hs7 1 rfl)) (zL 6 (Jh (H := H6) (s := TT5) (t := 41) (u := 41) (ty := 0) (x := x9) (y := w0) (r := true) (by kernel_rfl) c10))))) ?_
   refine wTa ?_
   refine rs0 [(4, xb true)] ?_
   refine wE ?_
   refine ⟨Or.inr rfl, [.one (vb true)], (by kernel_rfl), ?_⟩
   exact Eq.trans (b := some [.one (vb true)]) (by kernel_rfl) (congrArg (fun z => some [Y.one (vb z)]) (has_at hx9 c10))
  refine rSz [(2, yp n1), (3, yp n2), (5, xi i), (19, xb false)] H6 (zA 1 (qL 35 1 (.one (sv TT5 rb rn rp l)) (On.at hs7 0 rfl)) (zA 3 (Jb (H := H6) (s := TT5) (b := rb) (nil := rn) (capd := rp) (t := 35) (el := 41) (i := i) Try.underlying35 (by kernel_rfl) (by kernel_rfl) (by omega) hx9) (zA 5 (qA 41 (On.at hs7 1 rfl)) (zL 6 (Jh (H := H6) (s := TT5) (t := 41) (u := 41) (ty := 0) (x := x9) (y := w0) (r := false) (by kernel_rfl) c10))))) ?_
  refine wFk ?_
  refine rRz [(2, yp n1), (3, yp n2), (5, xi (i + 1))] H6 (zL 1 (qoAdd H6 i 1 (i + 1))) ?_
  exact ⟨(H6, (i + 1)), by kernel_rfl, (⟨(On.pick [0, 1] [] (by kernel_rfl) hs7), by omega, by omega, has_next (by omega) h3 hx9 c10⟩), (by show (_ : Nat) < _; simp only []; omega)⟩
 refine rSz [(2, yp n1), (3, yp n2), (5, xi i), (10, xb false)] H6 (zA 2 (qL 35 1 (.one (sv TT5 rb rn rp l)) (On.at hs7 0 rfl)) (zL 4 (qlssF H6 i (l.length : Int)))) ?_
 refine wFa ?_
 refine wX ?_
 refine Eq.mpr (if_pos rfl) ?_
 refine rs0 [(4, xb false)] ?_
 refine wE ?_
 refine ⟨Or.inr rfl, [.one (vb false)], (by kernel_rfl), ?_⟩
 exact Eq.trans (b := some [.one (vb false)]) (by kernel_rfl) (congrArg (fun z => some [Y.one (vb z)]) (has_not h3 (by omega)))
theorem le_succ {a b : Int} (h : a ≤ b) : a ≤ b + 1 := by omega
theorem less_ok (rb rn rp : Bool) (l : List TT5.T) (hl : (l.length : Int) ≤ 1000000000) (w0 : TT5.T)  : ∃ n : Bool, ∃ p : Bool, PureC pg an 61 [.agg [vb true, sv TT5 rb rn rp l], .agg [vi w0.1, vi w0.2.1.1, vi w0.2.1.2.1, vi w0.2.2.1.1, vi w0.2.2.1.2.1]] [.agg [vb true, sv TT5 false n p (lessT l w0)]] := by
 refine pE2 (rOF Try.func61 rfl ?_)
 obtain ⟨n1, hn1⟩ := lX []
 obtain ⟨n2, hn2⟩ := lX ([] ++ [.obj [vb true, sv TT5 rb rn rp l]])
 obtain ⟨n3, hn3⟩ := lX (([] ++ [.obj [vb true, sv TT5 rb rn rp l]]) ++ [.obj [vi w0.1, vi w0.2.1.1, vi w0.2.1.2.1, vi w0.2.2.1.1, vi w0.2.2.1.2.1]])
 refine rGz [(2, yp n1), (3, yp n2), (4, yp n3)] (On.new' hn3 (.obj [vb false, nilC]) (On.new' hn2 (.obj [vi w0.1, vi w0.2.1.1, vi w0.2.1.2.1, vi w0.2.2.1.1, vi w0.2.2.1.2.1]) (On.new' hn1 (.obj [vb true, sv TT5 rb rn rp l]) (On.nil [])))) (zA 0 (qB 48 [vb true, sv TT5 rb rn rp l] hn1) (zA 1 (qB 41 [vi w0.1, vi w0.2.1.1, vi w0.2.1.2.1, vi w0.2.2.1.1, vi w0.2.2.1.2.1] hn2) (zL 2 (qO 48 [vb false, nilC] hn3)))) fun H4 hs5 => ?_
 obtain ⟨n6, hn6⟩ := lX H4
 refine rGz [(2, yp n1), (3, yp n2), (4, yp n3), (5, yp n6)] (On.put (.obj [vb true, nilC]) (On.new' hn6 (.obj [vb false, nilC]) hs5) 3 rfl) (zA 1 (qO 48 [vb false, nilC] hn6) (zL 2 (qS 48 0 (.agg [vb true, nilC]) (On.at (On.new' hn6 (.obj [vb false, nilC]) hs5) 3 rfl)))) fun H7 hs8 => ?_
 refine wS ?_
 refine rs0 [(2, yp n1), (3, yp n2), (4, yp n3), (5, yp n6), (6, xi 0)] ?_
 refine wB ?_
 have hs9 : On [pts n1 (.obj [vb true, sv TT5 rb rn rp l]), pts n2 (.obj [vi w0.1, vi w0.2.1.1, vi w0.2.1.2.1, vi w0.2.2.1.1, vi w0.2.2.1.2.1]), pts n3 (.obj [vb false, nilC]), pts n6 (.obj [vb true, nilC]), ownP TT5 (nilC) (lessT (l.take (0 : Int).toNat) w0)] H7 := sH hs8 [] [0, 1, 2, 3] (fun _ _ => by rw [show (lessT (l.take (0 : Int).toNat) w0) = ([] : List TT5.T) from by simp [pinT, lessT, goneT, toldT]]; exact .inl ⟨rfl, rfl⟩)
 refine Wp.loop (T := HH × Int × C) (fun t => match t with | (H11, i, cvi) => (((l.length : Int) - i).toNat : Nat)) (fun t => match t with | (H11, i, cvi) => ([(2, yp n1), (3, yp n2), (4, yp n3), (5, yp n6), (6, xi i)] : Env)) (fun t => match t with | (H11, i, cvi) => (H11 : HH))
   (fun t => match t with | (H11, i, cvi) => (On [pts n1 (.obj [vb true, sv TT5 rb rn rp l]), pts n2 (.obj [vi w0.1, vi w0.2.1.1, vi w0.2.1.2.1, vi w0.2.2.1.1, vi w0.2.2.1.2.1]), pts n3 (.obj [vb false, nilC]), pts n6 (.obj [vb true, cvi]), ownP TT5 cvi (lessT (l.take (i : Int).toNat) w0)] H11 ∧ (0 ≤ i) ∧ (i ≤ (l.length : Int)) ∧ (((lessT (l.take (i : Int).toNat) w0).length : Int) ≤ i + 1) : Prop)) (H7, 0, (nilC)) (by kernel_rfl) (⟨(On.pick [0, 1, 2, 3, 4] [] (by kernel_rfl) hs9), by omega, by omega, by simp [pinT, lessT, goneT, toldT]⟩) ?_
 rintro ⟨H11, i, cvi⟩ ⟨hs12, hi1, hi2, hi3⟩
 show Wp _ _ _ _ [(2, yp n1), (3, yp n2), (4, yp n3), (5, yp n6), (6, xi i)] H11 _
 refine wS ?_
 rcases ilt (i) ((l.length : Int)) with c13 | c13
 ·
  refine rSz [(2, yp n1), (3, yp n2), (4, yp n3), (5, yp n6), (6, xi i), (12, xb true)] H11 (zA 2 (qL 35 1 (.one (sv TT5 rb rn rp l)) (On.at hs12 0 rfl)) (zL 4 (qlssT H11 i (l.length : Int)))) ?_
  refine wTk ?_
  refine wS (wB ?_)
  obtain ⟨x14, hx14⟩ : ∃ x, l[(i : Int).toNat]? = some x := get_of (by omega)
  rcases Bool.eq_false_or_eq_true ((eqb TT5 x14 w0)) with c15 | c15
  ·
   refine rSz [(2, yp n1), (3, yp n2), (4, yp n3), (5, yp n6), (6, xi i), (21, xb false)] H11 (zA 1 (qL 35 1 (.one (sv TT5 rb rn rp l)) (On.at hs12 0 rfl)) (zA 3 (Jb (H := H11) (s := TT5) (b := rb) (nil := rn) (capd := rp) (t := 35) (el := 41) (i := i) Try.underlying35 (by kernel_rfl) (by kernel_rfl) (by omega) hx14) (zA 5 (qA 41 (On.at hs12 1 rfl)) (zL 6 (Jg (H := H11) (s := TT5) (t := 41) (u := 41) (ty := 0) (x := x14) (y := w0) (r := false) (by kernel_rfl) c15))))) ?_
   refine wFk ?_
   refine rRz [(2, yp n1), (3, yp n2), (4, yp n3), (5, yp n6), (6, xi (i + 1))] H11 (zL 1 (qoAdd H11 i 1 (i + 1))) ?_
   exact ⟨(H11, (i + 1), cvi), by kernel_rfl, (⟨(On.pick [0, 1, 2, 3, 4] [] (by kernel_rfl) (On.mono (A' := ownP TT5 cvi (lessT (l.take (i + 1 : Int).toNat) w0)) 4 rfl (fun _ x => by rw [← (show (lessT (l.take (i : Int).toNat) w0) = (lessT (l.take (i + 1 : Int).toNat) w0) from less_no (by omega) hx14 c15)]; exact x) hs12)), by omega, by omega, le_succ (lessT_len _ _ (by omega))⟩), (by show (_ : Nat) < _; simp only []; omega)⟩
  refine rSz [(2, yp n1), (3, yp n2), (4, yp n3), (5, yp n6), (6, xi i), (21, xb true)] H11 (zA 1 (qL 35 1 (.one (sv TT5 rb rn rp l)) (On.at hs12 0 rfl)) (zA 3 (Jb (H := H11) (s := TT5) (b := rb) (nil := rn) (capd := rp) (t := 35) (el := 41) (i := i) Try.underlying35 (by kernel_rfl) (by kernel_rfl) (by omega) hx14) (zA 5 (qA 41 (On.at hs12 1 rfl)) (zL 6 (Jg (H := H11) (s := TT5) (t := 41) (u := 41) (ty := 0) (x := x14) (y := w0) (r := true) (by kernel_rfl) c15))))) ?_
  refine wTa ?_
  obtain ⟨cv16, H17, ho18, hs19⟩ := or_append_own (P := pg) (A := an) (s := TT5) (t := 35) (u := 35) (el := 41) (by_ := 40) (z := [vi 0, vi 0, vi 0, vi 0, vi 0]) (ty := 0) (y := .sl false false true [vi x14.1, vi x14.2.1.1, vi x14.2.1.2.1, vi x14.2.2.1.1, vi x14.2.2.1.2.1] 1) (lm := ([x14])) (m := 1) hs12 4 rfl ((slCells_slO (H := H11) (s := TT5) (b := false) (nil := false) (capd := true) (l := [x14]) (n := 1) (by first | rfl | omega | (simp only [ek_]; omega) | (simp; done) | (simp; omega)))) (by kernel_rfl) (by kernel_rfl) (by kernel_rfl) (by kernel_rfl) (by kernel_rfl) (by kernel_rfl) (by kernel_rfl) (by first | rfl | omega | (simp only [ek_]; omega) | (simp; done) | (simp; omega)) (by omega) (by omega)
  have hs19l : (((lessT (l.take (i : Int).toNat) w0) ++ ([x14])).length : Int) = (((lessT (l.take (i : Int).toNat) w0).length : Int) + 1) := by { first | omega | (simp only [ej_]; omega) | (simp; done) | (simp; omega) }
  have hv20 : C.live cv16 = true := own_live hs19 4 rfl
  refine rHz [(2, yp n1), (3, yp n2), (4, yp n3), (5, yp n6), (6, xi i)] (On.put (.obj [vb true, cv16]) hs19 3 rfl) (zA 1 (qL 35 1 (.one (cvi)) (On.at hs12 3 rfl)) (zA 3 (qL 35 1 (.one (sv TT5 rb rn rp l)) (On.at hs12 0 rfl)) (zA 5 (Jb (H := H11) (s := TT5) (b := rb) (nil := rn) (capd := rp) (t := 35) (el := 41) (i := i) Try.underlying35 (by kernel_rfl) (by kernel_rfl) (by omega) hx14) (zA 8 ho18 (zL 10 (Jk (H := H17) (t := 35) (ty := 0) (id := n6) (off := 1) (cs := [vb true, cvi]) (cs' := [vb true, cv16]) (v := .one (cv16)) (On.at hs19 3 rfl) (by kernel_rfl) (live_cons hv20 live_nil) (by kernel_rfl) (by kernel_rfl))))))) fun H21 hs22 => ?_
  refine wK ?_
  refine rRz [(2, yp n1), (3, yp n2), (4, yp n3), (5, yp n6), (6, xi (i + 1))] H21 (zL 1 (qoAdd H21 i 1 (i + 1))) ?_
  exact ⟨(H21, (i + 1), cv16), by kernel_rfl, (⟨(On.pick [0, 1, 2, 3, 4] [] (by kernel_rfl) (On.mono (A' := ownP TT5 cv16 (lessT (l.take (i + 1 : Int).toNat) w0)) 4 rfl (fun _ x => by rw [← (show ((lessT (l.take (i : Int).toNat) w0) ++ ([x14])) = (lessT (l.take (i + 1 : Int).toNat) w0) from less_yes (by omega) hx14 c15)]; exact x) hs22)), by omega, by omega, le_succ (lessT_len _ _ (by omega))⟩), (by show (_ : Nat) < _; simp only []; omega)⟩
 refine rSz [(2, yp n1), (3, yp n2), (4, yp n3), (5, yp n6), (6, xi i), (12, xb false)] H11 (zA 2 (qL 35 1 (.one (sv TT5 rb rn rp l)) (On.at hs12 0 rfl)) (zL 4 (qlssF H11 i (l.length : Int)))) ?_
 refine wFa ?_
 refine wX ?_
 refine Eq.mpr (if_pos rfl) ?_
 have hv23 : C.live cvi = true := own_live hs12 4 rfl
 refine rGz [(4, yp n3)] (On.put (.obj [vb true, cvi]) hs12 2 rfl) (zA 0 (qA 48 (On.at hs12 3 rfl)) (zL 1 (Jk (H := H11) (t := 48) (ty := 0) (id := n3) (off := 0) (cs := [vb false, nilC]) (cs' := [vb true, cvi]) (v := .agg [vb true, cvi]) (On.at hs12 2 rfl) (by kernel_rfl) (live_cons rfl (live_cons hv23 live_nil)) (by kernel_rfl) (by kernel_rfl)))) fun H24 hs25 => ?_
 refine wE ?_
 refine ⟨Or.inr rfl, [.agg [vb true, cvi]], (rC (On.at (On.mono (A' := ownP TT5 cvi (lessT l w0)) 4 rfl (fun _ x => by rw [← (show (lessT (l.take (i : Int).toNat) w0) = (lessT l w0) from by rw [take_all (by omega)])]; exact x) hs25) 2 rfl)), ?_⟩
 obtain ⟨fn26, fp27, hf28⟩ := own_back (On.mono (A' := ownP TT5 cvi (lessT l w0)) 4 rfl (fun _ x => by rw [← (show (lessT (l.take (i : Int).toNat) w0) = (lessT l w0) from by rw [take_all (by omega)])]; exact x) hs25) 4 rfl
 exact ⟨fn26, fp27, (back_cons (back_agg (mapM_cons' (by kernel_rfl) (mapM_cons' hf28 mapM_nil'))) rfl)⟩
theorem put_ok (rb rn rp : Bool) (l : List TT5.T) (hl : (l.length : Int) ≤ 1000000000) (w0 : TT5.T)  : ∃ n : Bool, ∃ p : Bool, PureC pg an 60 [.agg [vb true, sv TT5 rb rn rp l], .agg [vi w0.1, vi w0.2.1.1, vi w0.2.1.2.1, vi w0.2.2.1.1, vi w0.2.2.1.2.1]] [.agg [vb true, sv TT5 false n p (insT w0 l)]] := by
 refine pE2 (rOF Try.func60 rfl ?_)
 obtain ⟨n1, hn1⟩ := lX []
 obtain ⟨n2, hn2⟩ := lX ([] ++ [.obj [vb true, sv TT5 rb rn rp l]])
 obtain ⟨n3, hn3⟩ := lX (([] ++ [.obj [vb true, sv TT5 rb rn rp l]]) ++ [.obj [vi w0.1, vi w0.2.1.1, vi w0.2.1.2.1, vi w0.2.2.1.1, vi w0.2.2.1.2.1]])
 refine rGz [(2, yp n1), (3, yp n2), (4, yp n3)] (On.new' hn3 (.obj [vb false, nilC]) (On.new' hn2 (.obj [vi w0.1, vi w0.2.1.1, vi w0.2.1.2.1, vi w0.2.2.1.1, vi w0.2.2.1.2.1]) (On.new' hn1 (.obj [vb true, sv TT5 rb rn rp l]) (On.nil [])))) (zA 0 (qB 48 [vb true, sv TT5 rb rn rp l] hn1) (zA 1 (qB 41 [vi w0.1, vi w0.2.1.1, vi w0.2.1.2.1, vi w0.2.2.1.1, vi w0.2.2.1.2.1] hn2) (zL 2 (qO 48 [vb false, nilC] hn3)))) fun H4 hs5 => ?_
 obtain ⟨n6, hn6⟩ := lX H4
 refine rGz [(2, yp n1), (3, yp n2), (4, yp n3), (5, yp n6)] (On.put (.obj [vb true, nilC]) (On.new' hn6 (.obj [vb false, nilC]) hs5) 3 rfl) (zA 1 (qO 48 [vb false, nilC] hn6) (zL 2 (qS 48 0 (.agg [vb true, nilC]) (On.at (On.new' hn6 (.obj [vb false, nilC]) hs5) 3 rfl)))) fun H7 hs8 => ?_
 refine rs0 [(2, yp n1), (3, yp n2), (4, yp n3), (5, yp n6), (6, xb false)] ?_
 refine wS ?_
 refine rs0 [(2, yp n1), (3, yp n2), (4, yp n3), (5, yp n6), (6, xb false), (7, xi 0)] ?_
 refine wB ?_
 have hs9 : On [pts n1 (.obj [vb true, sv TT5 rb rn rp l]), pts n2 (.obj [vi w0.1, vi w0.2.1.1, vi w0.2.1.2.1, vi w0.2.2.1.1, vi w0.2.2.1.2.1]), pts n3 (.obj [vb false, nilC]), pts n6 (.obj [vb true, nilC]), ownP TT5 (nilC) (pinT w0 (l.take (0 : Int).toNat))] H7 := sH hs8 [] [0, 1, 2, 3] (fun _ _ => by rw [show (pinT w0 (l.take (0 : Int).toNat)) = ([] : List TT5.T) from by simp [pinT, lessT, goneT, toldT]]; exact .inl ⟨rfl, rfl⟩)
 refine Wp.loop (T := HH × Int × C × Bool) (fun t => match t with | (H11, i, cvi, dn) => (((l.length : Int) - i).toNat : Nat)) (fun t => match t with | (H11, i, cvi, dn) => ([(2, yp n1), (3, yp n2), (4, yp n3), (5, yp n6), (6, xb dn), (7, xi i)] : Env)) (fun t => match t with | (H11, i, cvi, dn) => (H11 : HH))
   (fun t => match t with | (H11, i, cvi, dn) => (On [pts n1 (.obj [vb true, sv TT5 rb rn rp l]), pts n2 (.obj [vi w0.1, vi w0.2.1.1, vi w0.2.1.2.1, vi w0.2.2.1.1, vi w0.2.2.1.2.1]), pts n3 (.obj [vb false, nilC]), pts n6 (.obj [vb true, cvi]), ownP TT5 cvi (pinT w0 (l.take (i : Int).toNat))] H11 ∧ (0 ≤ i) ∧ (i ≤ (l.length : Int)) ∧ (((pinT w0 (l.take (i : Int).toNat)).length : Int) ≤ i + 1) ∧ (dn = anyT w0 (l.take i.toNat)) : Prop)) (H7, 0, (nilC), false) (by kernel_rfl) (⟨(On.pick [0, 1, 2, 3, 4] [] (by kernel_rfl) hs9), by omega, by omega, by simp [pinT, lessT, goneT, toldT], by simp [anyT]⟩) ?_
 rintro ⟨H11, i, cvi, dn⟩ ⟨hs12, hi1, hi2, hi3, hd⟩
 show Wp _ _ _ _ [(2, yp n1), (3, yp n2), (4, yp n3), (5, yp n6), (6, xb dn), (7, xi i)] H11 _
 refine wS ?_
 rcases ilt (i) ((l.length : Int)) with c13 | c13
 ·
  refine rSz [(2, yp n1), (3, yp n2), (4, yp n3), (5, yp n6), (6, xb dn), (7, xi i), (13, xb true)] H11 (zA 2 (qL 35 1 (.one (sv TT5 rb rn rp l)) (On.at hs12 0 rfl)) (zL 4 (qlssT H11 i (l.length : Int)))) ?_
  refine wTk ?_
  refine wS (wB ?_)
  refine wS ?_
  rcases Bool.eq_false_or_eq_true dn with rfl | rfl
  ·
   refine rs0 [(2, yp n1), (3, yp n2), (4, yp n3), (5, yp n6), (6, xb true), (7, xi i), (26, xb false)] ?_
   refine wFk ?_
   obtain ⟨x14, hx14⟩ : ∃ x, l[(i : Int).toNat]? = some x := get_of (by omega)
   obtain ⟨cv15, H16, ho17, hs18⟩ := or_append_own (P := pg) (A := an) (s := TT5) (t := 35) (u := 35) (el := 41) (by_ := 40) (z := [vi 0, vi 0, vi 0, vi 0, vi 0]) (ty := 0) (y := .sl false false true [vi x14.1, vi x14.2.1.1, vi x14.2.1.2.1, vi x14.2.2.1.1, vi x14.2.2.1.2.1] 1) (lm := ([x14])) (m := 1) hs12 4 rfl ((slCells_slO (H := H11) (s := TT5) (b := false) (nil := false) (capd := true) (l := [x14]) (n := 1) (by first | rfl | omega | (simp only [ek_]; omega) | (simp; done) | (simp; omega)))) (by kernel_rfl) (by kernel_rfl) (by kernel_rfl) (by kernel_rfl) (by kernel_rfl) (by kernel_rfl) (by kernel_rfl) (by first | rfl | omega | (simp only [ek_]; omega) | (simp; done) | (simp; omega)) (by omega) (by omega)
   have hs18l : (((pinT w0 (l.take (i : Int).toNat)) ++ ([x14])).length : Int) = (((pinT w0 (l.take (i : Int).toNat)).length : Int) + 1) := by { first | omega | (simp only [ej_]; omega) | (simp; done) | (simp; omega) }
   have hv19 : C.live cv15 = true := own_live hs18 4 rfl
   refine rHz [(2, yp n1), (3, yp n2), (4, yp n3), (5, yp n6), (6, xb true), (7, xi i)] (On.put (.obj [vb true, cv15]) hs18 3 rfl) (zA 1 (qL 35 1 (.one (cvi)) (On.at hs12 3 rfl)) (zA 3 (qL 35 1 (.one (sv TT5 rb rn rp l)) (On.at hs12 0 rfl)) (zA 5 (Jb (H := H11) (s := TT5) (b := rb) (nil := rn) (capd := rp) (t := 35) (el := 41) (i := i) Try.underlying35 (by kernel_rfl) (by kernel_rfl) (by omega) hx14) (zA 8 ho17 (zL 10 (Jk (H := H16) (t := 35) (ty := 0) (id := n6) (off := 1) (cs := [vb true, cvi]) (cs' := [vb true, cv15]) (v := .one (cv15)) (On.at hs18 3 rfl) (by kernel_rfl) (live_cons hv19 live_nil) (by kernel_rfl) (by kernel_rfl))))))) fun H20 hs21 => ?_
   refine wK ?_
   refine rRz [(2, yp n1), (3, yp n2), (4, yp n3), (5, yp n6), (6, xb true), (7, xi (i + 1))] H20 (zL 1 (qoAdd H20 i 1 (i + 1))) ?_
   exact ⟨(H20, (i + 1), cv15, true), by kernel_rfl, (⟨(On.pick [0, 1, 2, 3, 4] [] (by kernel_rfl) (On.mono (A' := ownP TT5 cv15 (pinT w0 (l.take (i + 1 : Int).toNat))) 4 rfl (fun _ x => by rw [← (show ((pinT w0 (l.take (i : Int).toNat)) ++ ([x14])) = (pinT w0 (l.take (i + 1 : Int).toNat)) from put_yes (by omega) hx14 hd)]; exact x) hs21)), by omega, by omega, pinT_len _ _ (by omega), any_next (by omega) hx14 hd rfl⟩), (by show (_ : Nat) < _; simp only []; omega)⟩
  obtain ⟨x22, hx22⟩ : ∃ x, l[(i : Int).toNat]? = some x := get_of (by omega)
  rcases Bool.eq_false_or_eq_true ((aheadB w0 x22)) with c23 | c23
  ·
   refine rSz [(2, yp n1), (3, yp n2), (4, yp n3), (5, yp n6), (6, xb false), (7, xi i), (26, xb true)] H11 (zA 3 (qA 41 (On.at hs12 1 rfl)) (zA 5 (qL 35 1 (.one (sv TT5 rb rn rp l)) (On.at hs12 0 rfl)) (zA 7 (Jb (H := H11) (s := TT5) (b := rb) (nil := rn) (capd := rp) (t := 35) (el := 41) (i := i) Try.underlying35 (by kernel_rfl) (by kernel_rfl) (by omega) hx22) (zL 9 (Jd (H := H11) (g := 56) (x := .agg [vi w0.1, vi w0.2.1.1, vi w0.2.1.2.1, vi w0.2.2.1.1, vi w0.2.2.1.2.1]) (y := .agg [vi x22.1, vi x22.2.1.1, vi x22.2.1.2.1, vi x22.2.2.1.1, vi x22.2.2.1.2.1]) (res := [.one (vb true)]) (by have h9 := ahead_ok w0 x22; rw [c23] at h9; exact h9) (by kernel_rfl) (by kernel_rfl)))))) ?_
   refine wTa ?_
   obtain ⟨cv24, H25, ho26, hs27⟩ := or_append_own (P := pg) (A := an) (s := TT5) (t := 35) (u := 35) (el := 41) (by_ := 40) (z := [vi 0, vi 0, vi 0, vi 0, vi 0]) (ty := 0) (y := .sl false false true [vi w0.1, vi w0.2.1.1, vi w0.2.1.2.1, vi w0.2.2.1.1, vi w0.2.2.1.2.1] 1) (lm := ([w0])) (m := 1) hs12 4 rfl ((slCells_slO (H := H11) (s := TT5) (b := false) (nil := false) (capd := true) (l := [w0]) (n := 1) (by first | rfl | omega | (simp only [ek_]; omega) | (simp; done) | (simp; omega)))) (by kernel_rfl) (by kernel_rfl) (by kernel_rfl) (by kernel_rfl) (by kernel_rfl) (by kernel_rfl) (by kernel_rfl) (by first | rfl | omega | (simp only [ek_]; omega) | (simp; done) | (simp; omega)) (by omega) (by omega)
   have hs27l : (((pinT w0 (l.take (i : Int).toNat)) ++ ([w0])).length : Int) = (((pinT w0 (l.take (i : Int).toNat)).length : Int) + 1) := by { first | omega | (simp only [ej_]; omega) | (simp; done) | (simp; omega) }
   have hv28 : C.live cv24 = true := own_live hs27 4 rfl
   refine rGz [(2, yp n1), (3, yp n2), (4, yp n3), (5, yp n6), (7, xi i)] (On.put (.obj [vb true, cv24]) hs27 3 rfl) (zA 1 (qL 35 1 (.one (cvi)) (On.at hs12 3 rfl)) (zA 2 (qA 41 (On.at hs12 1 rfl)) (zA 4 ho26 (zL 6 (Jk (H := H25) (t := 35) (ty := 0) (id := n6) (off := 1) (cs := [vb true, cvi]) (cs' := [vb true, cv24]) (v := .one (cv24)) (On.at hs27 3 rfl) (by kernel_rfl) (live_cons hv28 live_nil) (by kernel_rfl) (by kernel_rfl)))))) fun H29 hs30 => ?_
   refine rRz [(2, yp n1), (3, yp n2), (4, yp n3), (5, yp n6), (6, xb true), (7, xi i)] H29 zN ?_
   obtain ⟨cv31, H32, ho33, hs34⟩ := or_append_own (P := pg) (A := an) (s := TT5) (t := 35) (u := 35) (el := 41) (by_ := 40) (z := [vi 0, vi 0, vi 0, vi 0, vi 0]) (ty := 0) (y := .sl false false true [vi x22.1, vi x22.2.1.1, vi x22.2.1.2.1, vi x22.2.2.1.1, vi x22.2.2.1.2.1] 1) (lm := ([x22])) (m := 1) hs30 4 rfl ((slCells_slO (H := H29) (s := TT5) (b := false) (nil := false) (capd := true) (l := [x22]) (n := 1) (by first | rfl | omega | (simp only [ek_]; omega) | (simp; done) | (simp; omega)))) (by kernel_rfl) (by kernel_rfl) (by kernel_rfl) (by kernel_rfl) (by kernel_rfl) (by kernel_rfl) (by kernel_rfl) (by first | rfl | omega | (simp only [ek_]; omega) | (simp; done) | (simp; omega)) (by omega) (by omega)
   have hs34l : ((((pinT w0 (l.take (i : Int).toNat)) ++ ([w0])) ++ ([x22])).length : Int) = ((((pinT w0 (l.take (i : Int).toNat)) ++ ([w0])).length : Int) + 1) := by { first | omega | (simp only [ej_]; omega) | (simp; done) | (simp; omega) }
   have hv35 : C.live cv31 = true := own_live hs34 4 rfl
   refine rHz [(2, yp n1), (3, yp n2), (4, yp n3), (5, yp n6), (6, xb true), (7, xi i)] (On.put (.obj [vb true, cv31]) hs34 3 rfl) (zA 1 (qL 35 1 (.one (cv24)) (On.at hs30 3 rfl)) (zA 3 (qL 35 1 (.one (sv TT5 rb rn rp l)) (On.at hs30 0 rfl)) (zA 5 (Jb (H := H29) (s := TT5) (b := rb) (nil := rn) (capd := rp) (t := 35) (el := 41) (i := i) Try.underlying35 (by kernel_rfl) (by kernel_rfl) (by omega) hx22) (zA 8 ho33 (zL 10 (Jk (H := H32) (t := 35) (ty := 0) (id := n6) (off := 1) (cs := [vb true, cv24]) (cs' := [vb true, cv31]) (v := .one (cv31)) (On.at hs34 3 rfl) (by kernel_rfl) (live_cons hv35 live_nil) (by kernel_rfl) (by kernel_rfl))))))) fun H36 hs37 => ?_
   refine wK ?_
   refine rRz [(2, yp n1), (3, yp n2), (4, yp n3), (5, yp n6), (6, xb true), (7, xi (i + 1))] H36 (zL 1 (qoAdd H36 i 1 (i + 1))) ?_
   exact ⟨(H36, (i + 1), cv31, true), by kernel_rfl, (⟨(On.pick [0, 1, 2, 3, 4] [] (by kernel_rfl) (On.mono (A' := ownP TT5 cv31 (pinT w0 (l.take (i + 1 : Int).toNat))) 4 rfl (fun _ x => by rw [← (show (((pinT w0 (l.take (i : Int).toNat)) ++ ([w0])) ++ ([x22])) = (pinT w0 (l.take (i + 1 : Int).toNat)) from put_new (by omega) hx22 hd c23)]; exact x) hs37)), by omega, by omega, pinT_len _ _ (by omega), any_next (by omega) hx22 hd (by rw [c23]; rfl)⟩), (by show (_ : Nat) < _; simp only []; omega)⟩
  refine rSz [(2, yp n1), (3, yp n2), (4, yp n3), (5, yp n6), (6, xb false), (7, xi i), (26, xb false)] H11 (zA 3 (qA 41 (On.at hs12 1 rfl)) (zA 5 (qL 35 1 (.one (sv TT5 rb rn rp l)) (On.at hs12 0 rfl)) (zA 7 (Jb (H := H11) (s := TT5) (b := rb) (nil := rn) (capd := rp) (t := 35) (el := 41) (i := i) Try.underlying35 (by kernel_rfl) (by kernel_rfl) (by omega) hx22) (zL 9 (Jd (H := H11) (g := 56) (x := .agg [vi w0.1, vi w0.2.1.1, vi w0.2.1.2.1, vi w0.2.2.1.1, vi w0.2.2.1.2.1]) (y := .agg [vi x22.1, vi x22.2.1.1, vi x22.2.1.2.1, vi x22.2.2.1.1, vi x22.2.2.1.2.1]) (res := [.one (vb false)]) (by have h9 := ahead_ok w0 x22; rw [c23] at h9; exact h9) (by kernel_rfl) (by kernel_rfl)))))) ?_
  refine wFk ?_
  obtain ⟨cv38, H39, ho40, hs41⟩ := or_append_own (P := pg) (A := an) (s := TT5) (t := 35) (u := 35) (el := 41) (by_ := 40) (z := [vi 0, vi 0, vi 0, vi 0, vi 0]) (ty := 0) (y := .sl false false true [vi x22.1, vi x22.2.1.1, vi x22.2.1.2.1, vi x22.2.2.1.1, vi x22.2.2.1.2.1] 1) (lm := ([x22])) (m := 1) hs12 4 rfl ((slCells_slO (H := H11) (s := TT5) (b := false) (nil := false) (capd := true) (l := [x22]) (n := 1) (by first | rfl | omega | (simp only [ek_]; omega) | (simp; done) | (simp; omega)))) (by kernel_rfl) (by kernel_rfl) (by kernel_rfl) (by kernel_rfl) (by kernel_rfl) (by kernel_rfl) (by kernel_rfl) (by first | rfl | omega | (simp only [ek_]; omega) | (simp; done) | (simp; omega)) (by omega) (by omega)
  have hs41l : (((pinT w0 (l.take (i : Int).toNat)) ++ ([x22])).length : Int) = (((pinT w0 (l.take (i : Int).toNat)).length : Int) + 1) := by { first | omega | (simp only [ej_]; omega) | (simp; done) | (simp; omega) }
  have hv42 : C.live cv38 = true := own_live hs41 4 rfl
  refine rHz [(2, yp n1), (3, yp n2), (4, yp n3), (5, yp n6), (6, xb false), (7, xi i)] (On.put (.obj [vb true, cv38]) hs41 3 rfl) (zA 1 (qL 35 1 (.one (cvi)) (On.at hs12 3 rfl)) (zA 3 (qL 35 1 (.one (sv TT5 rb rn rp l)) (On.at hs12 0 rfl)) (zA 5 (Jb (H := H11) (s := TT5) (b := rb) (nil := rn) (capd := rp) (t := 35) (el := 41) (i := i) Try.underlying35 (by kernel_rfl) (by kernel_rfl) (by omega) hx22) (zA 8 ho40 (zL 10 (Jk (H := H39) (t := 35) (ty := 0) (id := n6) (off := 1) (cs := [vb true, cvi]) (cs' := [vb true, cv38]) (v := .one (cv38)) (On.at hs41 3 rfl) (by kernel_rfl) (live_cons hv42 live_nil) (by kernel_rfl) (by kernel_rfl))))))) fun H43 hs44 => ?_
  refine wK ?_
  refine rRz [(2, yp n1), (3, yp n2), (4, yp n3), (5, yp n6), (6, xb false), (7, xi (i + 1))] H43 (zL 1 (qoAdd H43 i 1 (i + 1))) ?_
  exact ⟨(H43, (i + 1), cv38, false), by kernel_rfl, (⟨(On.pick [0, 1, 2, 3, 4] [] (by kernel_rfl) (On.mono (A' := ownP TT5 cv38 (pinT w0 (l.take (i + 1 : Int).toNat))) 4 rfl (fun _ x => by rw [← (show ((pinT w0 (l.take (i : Int).toNat)) ++ ([x22])) = (pinT w0 (l.take (i + 1 : Int).toNat)) from put_no (by omega) hx22 hd c23)]; exact x) hs44)), by omega, by omega, pinT_len _ _ (by omega), any_next (by omega) hx22 hd (by rw [c23]; rfl)⟩), (by show (_ : Nat) < _; simp only []; omega)⟩
 refine rSz [(2, yp n1), (3, yp n2), (4, yp n3), (5, yp n6), (6, xb dn), (7, xi i), (13, xb false)] H11 (zA 2 (qL 35 1 (.one (sv TT5 rb rn rp l)) (On.at hs12 0 rfl)) (zL 4 (qlssF H11 i (l.length : Int)))) ?_
 refine wFa ?_
 refine wX ?_
 refine Eq.mpr (if_pos rfl) ?_
 refine wS ?_
 rcases Bool.eq_false_or_eq_true dn with rfl | rfl
 ·
  refine rs0 [(3, yp n2), (4, yp n3), (5, yp n6), (44, xb false)] ?_
  refine wFk ?_
  have hv45 : C.live cvi = true := own_live hs12 4 rfl
  refine rGz [(4, yp n3)] (On.put (.obj [vb true, cvi]) hs12 2 rfl) (zA 0 (qA 48 (On.at hs12 3 rfl)) (zL 1 (Jk (H := H11) (t := 48) (ty := 0) (id := n3) (off := 0) (cs := [vb false, nilC]) (cs' := [vb true, cvi]) (v := .agg [vb true, cvi]) (On.at hs12 2 rfl) (by kernel_rfl) (live_cons rfl (live_cons hv45 live_nil)) (by kernel_rfl) (by kernel_rfl)))) fun H46 hs47 => ?_
  refine wE ?_
  refine ⟨Or.inr rfl, [.agg [vb true, cvi]], (rC (On.at (On.mono (A' := ownP TT5 cvi (insT w0 l)) 4 rfl (fun _ x => by rw [← (show (pinT w0 (l.take (i : Int).toNat)) = (insT w0 l) from put_end1 (by omega) hd)]; exact x) hs47) 2 rfl)), ?_⟩
  obtain ⟨fn48, fp49, hf50⟩ := own_back (On.mono (A' := ownP TT5 cvi (insT w0 l)) 4 rfl (fun _ x => by rw [← (show (pinT w0 (l.take (i : Int).toNat)) = (insT w0 l) from put_end1 (by omega) hd)]; exact x) hs47) 4 rfl
  exact ⟨fn48, fp49, (back_cons (back_agg (mapM_cons' (by kernel_rfl) (mapM_cons' hf50 mapM_nil'))) rfl)⟩
 refine rs0 [(3, yp n2), (4, yp n3), (5, yp n6), (44, xb true)] ?_
 refine wTa ?_
 obtain ⟨cv51, H52, ho53, hs54⟩ := or_append_own (P := pg) (A := an) (s := TT5) (t := 35) (u := 35) (el := 41) (by_ := 40) (z := [vi 0, vi 0, vi 0, vi 0, vi 0]) (ty := 0) (y := .sl false false true [vi w0.1, vi w0.2.1.1, vi w0.2.1.2.1, vi w0.2.2.1.1, vi w0.2.2.1.2.1] 1) (lm := ([w0])) (m := 1) hs12 4 rfl ((slCells_slO (H := H11) (s := TT5) (b := false) (nil := false) (capd := true) (l := [w0]) (n := 1) (by first | rfl | omega | (simp only [ek_]; omega) | (simp; done) | (simp; omega)))) (by kernel_rfl) (by kernel_rfl) (by kernel_rfl) (by kernel_rfl) (by kernel_rfl) (by kernel_rfl) (by kernel_rfl) (by first | rfl | omega | (simp only [ek_]; omega) | (simp; done) | (simp; omega)) (by omega) (by omega)
 have hs54l : (((pinT w0 (l.take (i : Int).toNat)) ++ ([w0])).length : Int) = (((pinT w0 (l.take (i : Int).toNat)).length : Int) + 1) := by { first | omega | (simp only [ej_]; omega) | (simp; done) | (simp; omega) }
 have hv55 : C.live cv51 = true := own_live hs54 4 rfl
 refine rHz [(4, yp n3), (5, yp n6)] (On.put (.obj [vb true, cv51]) hs54 3 rfl) (zA 1 (qL 35 1 (.one (cvi)) (On.at hs12 3 rfl)) (zA 2 (qA 41 (On.at hs12 1 rfl)) (zA 4 ho53 (zL 6 (Jk (H := H52) (t := 35) (ty := 0) (id := n6) (off := 1) (cs := [vb true, cvi]) (cs' := [vb true, cv51]) (v := .one (cv51)) (On.at hs54 3 rfl) (by kernel_rfl) (live_cons hv55 live_nil) (by kernel_rfl) (by kernel_rfl)))))) fun H56 hs57 => ?_
 refine wK ?_
 refine rGz [(4, yp n3)] (On.put (.obj [vb true, cv51]) hs57 2 rfl) (zA 0 (qA 48 (On.at hs57 3 rfl)) (zL 1 (Jk (H := H56) (t := 48) (ty := 0) (id := n3) (off := 0) (cs := [vb false, nilC]) (cs' := [vb true, cv51]) (v := .agg [vb true, cv51]) (On.at hs57 2 rfl) (by kernel_rfl) (live_cons rfl (live_cons hv55 live_nil)) (by kernel_rfl) (by kernel_rfl)))) fun H58 hs59 => ?_
 refine wE ?_
 refine ⟨Or.inr rfl, [.agg [vb true, cv51]], (rC (On.at (On.mono (A' := ownP TT5 cv51 (insT w0 l)) 4 rfl (fun _ x => by rw [← (show ((pinT w0 (l.take (i : Int).toNat)) ++ ([w0])) = (insT w0 l) from put_end2 (by omega) hd)]; exact x) hs59) 2 rfl)), ?_⟩
 obtain ⟨fn60, fp61, hf62⟩ := own_back (On.mono (A' := ownP TT5 cv51 (insT w0 l)) 4 rfl (fun _ x => by rw [← (show ((pinT w0 (l.take (i : Int).toNat)) ++ ([w0])) = (insT w0 l) from put_end2 (by omega) hd)]; exact x) hs59) 4 rfl
 exact ⟨fn60, fp61, (back_cons (back_agg (mapM_cons' (by kernel_rfl) (mapM_cons' hf62 mapM_nil'))) rfl)⟩
theorem find_ok (rb rn rp : Bool) (l : List TT5.T) (hl : (l.length : Int) ≤ 1000000000) (r : Int) (y : TT5.T) (hy : y = findT l r)  : PureC pg an 62 [.agg [vb true, sv TT5 rb rn rp l], .one (vi r)] [.agg [vi y.1, vi y.2.1.1, vi y.2.1.2.1, vi y.2.2.1.1, vi y.2.2.1.2.1], .one (vb (hasR l r))] := by
 refine rOF Try.func62 rfl ?_
 obtain ⟨n1, hn1⟩ := lX []
 obtain ⟨n2, hn2⟩ := lX ([] ++ [.obj [vb true, sv TT5 rb rn rp l]])
 refine rGz [(1, xi r), (2, yp n1), (4, yp n2)] (On.new' hn2 (.obj [vi 0, vi 0, vi 0, vi 0, vi 0]) (On.new' hn1 (.obj [vb true, sv TT5 rb rn rp l]) (On.nil []))) (zA 0 (qB 48 [vb true, sv TT5 rb rn rp l] hn1) (zL 1 (qO 41 [vi 0, vi 0, vi 0, vi 0, vi 0] hn2))) fun H3 hs4 => ?_
 refine wS ?_
 refine rs0 [(1, xi r), (2, yp n1), (4, yp n2), (6, xi 0)] ?_
 refine wB ?_
 refine Wp.loop (T := HH × Int) (fun t => match t with | (H6, i) => (((l.length : Int) - i).toNat : Nat)) (fun t => match t with | (H6, i) => ([(1, xi r), (2, yp n1), (4, yp n2), (6, xi i)] : Env)) (fun t => match t with | (H6, i) => (H6 : HH))
   (fun t => match t with | (H6, i) => (On [pts n1 (.obj [vb true, sv TT5 rb rn rp l]), pts n2 (.obj [vi 0, vi 0, vi 0, vi 0, vi 0])] H6 ∧ (0 ≤ i) ∧ (i ≤ (l.length : Int)) ∧ (hasR (l.take i.toNat) r = false) : Prop)) (H3, 0) (by kernel_rfl) (⟨(On.pick [0, 1] [] (by kernel_rfl) hs4), by omega, by omega, rfl⟩) ?_
 rintro ⟨H6, i⟩ ⟨hs7, h1, h2, h3⟩
 show Wp _ _ _ _ [(1, xi r), (2, yp n1), (4, yp n2), (6, xi i)] H6 _
 refine wS ?_
 rcases ilt (i) ((l.length : Int)) with c8 | c8
 ·
  refine rSz [(1, xi r), (2, yp n1), (4, yp n2), (6, xi i), (11, xb true)] H6 (zA 2 (qL 35 1 (.one (sv TT5 rb rn rp l)) (On.at hs7 0 rfl)) (zL 4 (qlssT H6 i (l.length : Int)))) ?_
  refine wTk ?_
  refine wS (wB ?_)
  rcases ilt (0) (r) with c9 | c9
  ·
   obtain ⟨x10, hx10⟩ : ∃ x, l[(i : Int).toNat]? = some x := get_of (by omega)
   rcases ieq (x10.1) (r) with c11 | c11
   ·
    refine rSz [(1, xi r), (2, yp n1), (4, yp n2), (6, xi i), (25, xb true)] H6 (zA 1 (qgtrT H6 r 0) (zA 4 (qL 35 1 (.one (sv TT5 rb rn rp l)) (On.at hs7 0 rfl)) (zA 6 (Jb (H := H6) (s := TT5) (b := rb) (nil := rn) (capd := rp) (t := 35) (el := 41) (i := i) Try.underlying35 (by kernel_rfl) (by kernel_rfl) (by omega) hx10) (zL 10 (Ja (vals := [xi x10.1, xi r]) (H := H6) (op := .binOp .eql 3 (.tmp 0) (.tmp 1) 3) (ty := 0) (r := xb (beqI (x10.1) (r))) (v := xb true) (by kernel_rfl) (congrArg (fun z => xb z) (beq_t (by omega)))))))) ?_
    refine wTa ?_
    refine rGz [(4, yp n2), (5, xb true)] (On.put (.obj [vi x10.1, vi x10.2.1.1, vi x10.2.1.2.1, vi x10.2.2.1.1, vi x10.2.2.1.2.1]) hs7 1 rfl) (zA 1 (qL 35 1 (.one (sv TT5 rb rn rp l)) (On.at hs7 0 rfl)) (zA 3 (Jb (H := H6) (s := TT5) (b := rb) (nil := rn) (capd := rp) (t := 35) (el := 41) (i := i) Try.underlying35 (by kernel_rfl) (by kernel_rfl) (by omega) hx10) (zL 5 (qS 41 0 (.agg [vi x10.1, vi x10.2.1.1, vi x10.2.1.2.1, vi x10.2.2.1.1, vi x10.2.2.1.2.1]) (On.at hs7 1 rfl))))) fun H12 hs13 => ?_
    refine wE ?_
    refine ⟨Or.inr rfl, [.agg [vi x10.1, vi x10.2.1.1, vi x10.2.1.2.1, vi x10.2.2.1.1, vi x10.2.2.1.2.1], .one (vb true)], (rC (On.at hs13 1 rfl)), ?_⟩
    have e := hy.trans (findT_at h3 hx10 (by omega) (by omega))
    rw [e]
    exact Eq.trans (b := some [.agg [vi x10.1, vi x10.2.1.1, vi x10.2.1.2.1, vi x10.2.2.1.1, vi x10.2.2.1.2.1], .one (vb true)]) (by kernel_rfl) (congrArg (fun z => some [_, Y.one (vb z)]) (hasR_at hx10 (by omega) (by omega)))
   refine rSz [(1, xi r), (2, yp n1), (4, yp n2), (6, xi i), (25, xb false)] H6 (zA 1 (qgtrT H6 r 0) (zA 4 (qL 35 1 (.one (sv TT5 rb rn rp l)) (On.at hs7 0 rfl)) (zA 6 (Jb (H := H6) (s := TT5) (b := rb) (nil := rn) (capd := rp) (t := 35) (el := 41) (i := i) Try.underlying35 (by kernel_rfl) (by kernel_rfl) (by omega) hx10) (zL 10 (Ja (vals := [xi x10.1, xi r]) (H := H6) (op := .binOp .eql 3 (.tmp 0) (.tmp 1) 3) (ty := 0) (r := xb (beqI (x10.1) (r))) (v := xb false) (by kernel_rfl) (congrArg (fun z => xb z) (beq_f (by omega)))))))) ?_
   refine wFk ?_
   refine rRz [(1, xi r), (2, yp n1), (4, yp n2), (6, xi (i + 1))] H6 (zL 1 (qoAdd H6 i 1 (i + 1))) ?_
   exact ⟨(H6, (i + 1)), by kernel_rfl, (⟨(On.pick [0, 1] [] (by kernel_rfl) hs7), by omega, by omega, hasR_step (by omega) h3 hx10 (.inr (by omega))⟩), (by show (_ : Nat) < _; simp only []; omega)⟩
  refine rSz [(1, xi r), (2, yp n1), (4, yp n2), (6, xi i), (25, xb false)] H6 (zL 1 (qgtrF H6 r 0)) ?_
  refine wFk ?_
  refine rRz [(1, xi r), (2, yp n1), (4, yp n2), (6, xi (i + 1))] H6 (zL 1 (qoAdd H6 i 1 (i + 1))) ?_
  exact ⟨(H6, (i + 1)), by kernel_rfl, (⟨(On.pick [0, 1] [] (by kernel_rfl) hs7), by omega, by omega, hasR_low _ (by omega)⟩), (by show (_ : Nat) < _; simp only []; omega)⟩
 refine rSz [(1, xi r), (2, yp n1), (4, yp n2), (6, xi i), (11, xb false)] H6 (zA 2 (qL 35 1 (.one (sv TT5 rb rn rp l)) (On.at hs7 0 rfl)) (zL 4 (qlssF H6 i (l.length : Int)))) ?_
 refine wFa ?_
 refine wX ?_
 refine Eq.mpr (if_pos rfl) ?_
 refine rGz [(4, yp n2), (5, xb false)] (On.put (.obj [vi 0, vi 0, vi 0, vi 0, vi 0]) hs7 1 rfl) (zL 1 (qS 41 0 (.agg [vi 0, vi 0, vi 0, vi 0, vi 0]) (On.at hs7 1 rfl))) fun H14 hs15 => ?_
 refine wE ?_
 refine ⟨Or.inr rfl, [.agg [vi 0, vi 0, vi 0, vi 0, vi 0], .one (vb false)], (rC (On.at hs15 1 rfl)), ?_⟩
 have e := hy.trans (findT_none (hasR_end (by omega) h3).symm)
 subst e
 exact Eq.trans (b := some [.agg [vi 0, vi 0, vi 0, vi 0, vi 0], .one (vb false)]) (by kernel_rfl) (congrArg (fun z => some [_, Y.one (vb z)]) (hasR_end (by omega) h3))
end Go.Proofs.Ytjhgjbagmkiibaa.E
end
