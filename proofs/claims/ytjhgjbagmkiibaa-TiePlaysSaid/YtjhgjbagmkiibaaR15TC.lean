/- Lemmas. -/
import Derived.Test.YtjhgjbagmkiibaaR15SR
import Derived.Test.YtjhgjbagmkiibaaX40
import Derived.Test.YtjhgjbagmkiibaaX30
import Derived.Test.YtjhgjbagmkiibaaX15
section
namespace Go.Proofs.Ytjhgjbagmkiibaa
open Go.Lg Go.Sort
set_option maxRecDepth 100000
set_option linter.unusedVariables false
abbrev ILe (a b : Int) : Prop := a ≤ b
abbrev ILt (a b : Int) : Prop := a < b
abbrev IEq (a b : Int) : Prop := a = b
abbrev INe (a b : Int) : Prop := a ≠ b
theorem ilt (a b : Int) : ILt a b ∨ ILe b a := Int.lt_or_le a b
theorem ile (a b : Int) : ILe a b ∨ ILt b a := (Int.lt_or_le b a).symm
theorem ieq (a b : Int) : IEq a b ∨ INe a b := if h : a = b then .inl h else .inr h
abbrev beqI (a b : Int) : Bool := a == b
abbrev bneI (a b : Int) : Bool := a != b
abbrev TT5 : Sh := .pr NI (.pr PD (.pr PD .nil))
def ltD (a b : PD.T) : Bool := ltP (a.1, a.2.1) (b.1, b.2.1)
def ltK (a b : TT5.T) : Bool := ltT ((a.2.1.1, a.2.1.2.1), (a.2.2.1.1, a.2.2.1.2.1)) ((b.2.1.1, b.2.1.2.1), (b.2.2.1.1, b.2.2.1.2.1))
def okD (a : PD.T) : Bool := decide (0 ≤ a.1 ∧ a.1 < 256)
def okK (a : TT5.T) : Bool := decide (a.1 = 0) && (okD a.2.1 && okD a.2.2.1)
def pdP (a : PD.T) : Int × Int := (a.1, a.2.1)
def ttP (a : TT5.T) : PP := ((a.2.1.1, a.2.1.2.1), (a.2.2.1.1, a.2.2.1.2.1))
theorem decP_enc : ∀ l : List PD.T, decP (l.flatMap (enc PD)) = some (l.map pdP)
 | [] => rfl
 | x :: l => by
  show (decP (l.flatMap (enc PD))).map _ = _
  rw [decP_enc l]; rfl
theorem valP_enc : ∀ l : List PD.T, ((l.map pdP).flatMap valP).map C.sc = l.flatMap (enc PD)
 | [] => rfl
 | x :: l => by
  have := valP_enc l
  show C.sc _ :: C.sc _ :: ((l.map pdP).flatMap valP).map C.sc = _
  rw [this]; rfl
theorem decT_enc : ∀ l : List TT5.T, l.all okK = true → decT (l.flatMap (enc TT5)) = some (l.map ttP)
 | [], _ => rfl
 | x :: l, h => by
  simp only [List.all_cons, Bool.and_eq_true] at h
  have h0 : x.1 = 0 := by
   have := h.1
   simp only [okK, Bool.and_eq_true, decide_eq_true_eq] at this
   exact this.1
  have ih := decT_enc l h.2
  obtain ⟨z, ⟨a, b, u⟩, ⟨c, d, v⟩, w⟩ := x
  cases h0
  show (if (0 : Int) = 0 then (decT (l.flatMap (enc TT5))).map _ else none) = _
  rw [if_pos rfl, ih]; rfl
theorem valT_enc : ∀ l : List TT5.T, l.all okK = true → ((l.map ttP).flatMap valT5).map C.sc = l.flatMap (enc TT5)
 | [], _ => rfl
 | x :: l, h => by
  simp only [List.all_cons, Bool.and_eq_true] at h
  have h0 : x.1 = 0 := by
   have := h.1
   simp only [okK, Bool.and_eq_true, decide_eq_true_eq] at this
   exact this.1
  have ih := valT_enc l h.2
  obtain ⟨z, ⟨a, b, u⟩, ⟨c, d, v⟩, w⟩ := x
  cases h0
  show C.sc _ :: C.sc _ :: C.sc _ :: C.sc _ :: C.sc _ :: ((l.map ttP).flatMap valT5).map C.sc = _
  rw [ih]; rfl
theorem decI_enc : ∀ l : List Int, decI (l.flatMap (enc NI)) = some l
 | [] => rfl
 | x :: l => by
  show (decI (l.flatMap (enc NI))).map _ = _
  rw [decI_enc l]; rfl
theorem valI_enc : ∀ l : List Int, (l.flatMap valI).map C.sc = l.flatMap (enc NI)
 | [] => rfl
 | x :: l => by
  have := valI_enc l
  show C.sc _ :: (l.flatMap valI).map C.sc = _
  rw [this]; rfl
theorem ltD_is (a b : PD.T) : ltP (pdP a) (pdP b) = ltD a b := rfl
theorem ltK_is (a b : TT5.T) : ltT (ttP a) (ttP b) = ltK a b := rfl
theorem isort_all {α : Type} {lt : α → α → Bool} {p : α → Bool} {l : List α} (h : l.all p = true) : (isort lt l).all p = true := by
 rw [List.all_eq_true] at h ⊢
 exact fun x hx => h x ((isort_perm lt l).subset hx)
theorem isort_len {α : Type} (lt : α → α → Bool) (l : List α) : (isort lt l).length = l.length := (isort_perm lt l).length_eq
theorem sort_whole {P : Program} {A : Ann} {s : Sh} {f : FuncId} {sp : List Y → Heap → Option (List Y × Heap)} {cs : List HP} {H : Heap} {c : C} {l l' : List s.T} {more : List Y} (hm : A.may f = false) (hs : A.spec f = some sp) (hl : l'.length = l.length) (hnil : l = [] → l' = [])
  (h0 : ∀ H, sp (.one nilC :: more) H = some ([], H)) (h1 : ∀ (H : Heap) k, H[k]? = some (rowO s true 0 l) → sp (.one (rowC k 0 l.length 0 l.length false) :: more) H = some ([], H.set k (rowO s true 0 l')))
  (h : On cs H) (j : Nat) (hj : cs[j]? = some (ownP s c l)) : ∃ H', Runs P A f (.one c :: more) H [] H' ∧ On (cs.eraseIdx j ++ [ownP s c l']) H' := by
 rcases own_open h j hj with ⟨rfl, rfl, h2⟩ | ⟨k, rfl, hk, h2⟩
 ·refine ⟨H, Runs.spec hm hs (h0 H), ?_⟩
  rw [hnil rfl]
  exact On.addOwn h2
 ·have hH := On.at h2 (cs.eraseIdx j).length (by rw [List.getElem?_append_right (Nat.le_refl _), Nat.sub_self]; rfl)
  refine ⟨_, Runs.spec hm hs (h1 H k hH), ?_⟩
  have hp := On.put (rowO s true 0 l') h2 (cs.eraseIdx j).length (by rw [List.getElem?_append_right (Nat.le_refl _), Nat.sub_self]; rfl)
  rw [show (cs.eraseIdx j ++ [pts k (rowO s true 0 l)]).set (cs.eraseIdx j).length (pts k (rowO s true 0 l')) = cs.eraseIdx j ++ [pts k (rowO s true 0 l')] by rw [List.set_append_right _ _ (Nat.le_refl _), Nat.sub_self]; rfl] at hp
  have hne : l' ≠ [] := fun e => hk (List.eq_nil_of_length_eq_zero (by rw [← hl, e]; rfl))
  exact On.last (fun _ x => by rw [← hl]; exact own_row hne (SL_one x)) hp
section
variable {A : Ann} {c : C}
theorem sortD (hm : A.may 30 = false) (hs : A.spec 30 = some sort30) (R : HP) (H : Heap) {l : List PD.T} (hok : l.all okD = true) (hn : l.length ≤ 3518437208883) (h : On [R, ownP PD c l] H) :
  ∃ rs H', Runs pg A 30 [.one c, .one (.fn (.func 31) [] [])] H rs H' ∧ rs = [] ∧ On [R, ownP PD c (isort ltD l)] H' := by
 have key : ∀ (H : Go.Lg.Heap) k, H[k]? = some (rowO PD true 0 l) → sort30 [.one (rowC k 0 l.length 0 l.length false), .one (.fn (.func 31) [] [])] H = some ([], H.set k (rowO PD true 0 (isort ltD l))) := by
  intro H k hk
  unfold sort30
  simp only [hk, Nat.zero_add]
  rw [if_pos ⟨trivial, trivial, trivial, trivial, rfl, hn⟩, decP_enc, Option.bind_some, if_pos (by rw [List.all_map]; exact hok), isort_map ltD_is, valP_enc]
  unfold rowO
  rw [isort_len, Nat.zero_add]
  rfl
 obtain ⟨H', h1, h2⟩ := sort_whole (l' := isort ltD l) (more := [.one (.fn (.func 31) [] [])]) hm hs (isort_len _ _) (fun h => by rw [h]; rfl) (fun H => show (if (0 : Nat) = 0 ∧ (31 : Nat) = 31 then some ([], H) else none) = _ from if_pos ⟨rfl, rfl⟩) key h 1 rfl
 exact ⟨_, _, h1, rfl, h2⟩
theorem sortK (hm : A.may 38 = false) (hs : A.spec 38 = some sort38) (R : HP) (H : Heap) {l : List TT5.T} (hok : l.all okK = true) (hn : l.length ≤ 3518437208883) (h : On [R, ownP TT5 c l] H) :
  ∃ rs H', Runs pg A 38 [.one c, .one (.fn (.func 39) [] [])] H rs H' ∧ rs = [] ∧ On [R, ownP TT5 c (isort ltK l)] H' := by
 have key : ∀ (H : Go.Lg.Heap) k, H[k]? = some (rowO TT5 true 0 l) → sort38 [.one (rowC k 0 l.length 0 l.length false), .one (.fn (.func 39) [] [])] H = some ([], H.set k (rowO TT5 true 0 (isort ltK l))) := by
  intro H k hk
  unfold sort38
  simp only [hk, Nat.zero_add]
  rw [if_pos ⟨trivial, trivial, trivial, trivial, rfl, hn⟩, decT_enc _ hok, Option.bind_some, if_pos (by
   rw [List.all_map]
   rw [List.all_eq_true] at hok ⊢
   intro x hx
   have := hok x hx
   simp only [okK, Bool.and_eq_true] at this
   exact Bool.and_eq_true_iff.2 this.2), isort_map ltK_is, valT_enc _ (isort_all hok)]
  unfold rowO
  rw [isort_len, Nat.zero_add]
  rfl
 obtain ⟨H', h1, h2⟩ := sort_whole (l' := isort ltK l) (more := [.one (.fn (.func 39) [] [])]) hm hs (isort_len _ _) (fun h => by rw [h]; rfl) (fun H => show (if (0 : Nat) = 0 ∧ (39 : Nat) = 39 then some ([], H) else none) = _ from if_pos ⟨rfl, rfl⟩) key h 1 rfl
 exact ⟨_, _, h1, rfl, h2⟩
theorem sortI (hm : A.may 52 = false) (hs : A.spec 52 = some sort52) (R : HP) (H : Heap) {l : List Int} (hn : l.length ≤ 3518437208883) (h : On [R, ownP NI c l] H) :
  ∃ rs H', Runs pg A 52 [.one c] H rs H' ∧ rs = [] ∧ On [R, ownP NI c (isort ltI l)] H' := by
 have key : ∀ (H : Go.Lg.Heap) k, H[k]? = some (rowO NI true 0 l) → sort52 [.one (rowC k 0 l.length 0 l.length false)] H = some ([], H.set k (rowO NI true 0 (isort ltI l))) := by
  intro H k hk
  unfold sort52
  simp only [hk, Nat.zero_add]
  rw [if_pos ⟨trivial, trivial, trivial, rfl, hn⟩, decI_enc, Option.bind_some, valI_enc]
  unfold rowO
  rw [isort_len, Nat.zero_add]
  rfl
 obtain ⟨H', h1, h2⟩ := sort_whole (s := NI) (l' := isort ltI l) (more := []) hm hs (isort_len _ _) (fun h => by rw [h]; rfl) (fun H => show (if (0 : Nat) = 0 then some ([], H) else none) = _ from if_pos rfl) key h 1 rfl
 exact ⟨_, _, h1, rfl, h2⟩
end
def lnkOf (L : List PR.T) (a : PD.T) : List PD.T := L.filterMap fun p => if eqb PD p.1 a then some p.2.1 else if eqb PD p.2.1 a then some p.1 else none
def refOf (q : PR.T → Bool) (M : List TI.T) : List Int := (M.filter fun p => q p.2).map (·.1)
def tieL (p : PR.T) : TT5.T := (0, p)
theorem lnkOf_snoc (D : List PR.T) (x : PR.T) (a : PD.T) : lnkOf (D ++ [x]) a = lnkOf D a ++ (if eqb PD x.1 a then [x.2.1] else if eqb PD x.2.1 a then [x.1] else []) := by
 unfold lnkOf
 rw [List.filterMap_append]
 congr 1
 cases h1 : eqb PD x.1 a with
 | true => simp [h1]
 | false =>
  cases h2 : eqb PD x.2.1 a with
  | true => simp [h1, h2]
  | false => simp [h1, h2]
theorem refOf_snoc (q : PR.T → Bool) (D : List TI.T) (x : TI.T) : refOf q (D ++ [x]) = refOf q D ++ (if q x.2 then [x.1] else []) := by
 unfold refOf
 rw [List.filter_append, List.map_append]
 congr 1
 cases h : q x.2 with
 | true => simp [h]
 | false => simp [h]
def okL (p : PR.T) : Bool := okD p.1 && okD p.2.1
theorem okLs {L D : List PR.T} (hok : L.all okL = true) (hp : D.Perm L) (a : PD.T) : (lnkOf D a).all okD = true := by
 rw [List.all_eq_true] at hok ⊢
 intro x hx
 obtain ⟨p, h1, h2⟩ := List.mem_filterMap.1 hx
 have := hok p (hp.subset h1)
 simp only [okL, Bool.and_eq_true] at this
 split at h2
 ·cases h2; exact this.2
 ·split at h2
  ·cases h2; exact this.1
  ·cases h2
theorem lenLs {L D : List PR.T} (hn : L.length ≤ 3518437208883) (hp : D.Perm L) (a : PD.T) : (lnkOf D a).length ≤ 3518437208883 :=
 Nat.le_trans (List.length_filterMap_le _ _) (hp.length_eq ▸ hn)
theorem swoD : SWO ltD where
 irrefl x := swoP.irrefl _
 trans x y z := swoP.trans _ _ _
 ntrans x y z := swoP.ntrans _ _ _
theorem antiD (x y : PD.T) (h1 : ltD x y = false) (h2 : ltD y x = false) : x = y := by
 obtain ⟨a, b, _⟩ := x
 obtain ⟨c, d, _⟩ := y
 have := antiP _ _ h1 h2
 obtain ⟨rfl, rfl⟩ := Prod.mk.inj this
 rfl
theorem isort_of_perm {α : Type} {lt : α → α → Bool} (hO : SWO lt) (hT : ∀ x y, lt x y = false → lt y x = false → x = y) {l m : List α} (h : l.Perm m) : isort lt l = isort lt m :=
 sorted_one (r := fun a b => lt b a = false) (fun x y h1 h2 => hT x y h2 h1) ((isort_perm lt l).trans (h.trans (isort_perm lt m).symm)) (isort_sorted hO l) (isort_sorted hO m)
theorem lnkOf_perm {L M : List PR.T} (h : L.Perm M) (a : PD.T) : (lnkOf L a).Perm (lnkOf M a) := h.filterMap _
theorem linksPerm {L D : List PR.T} (hp : D.Perm L) (a : PD.T) : isort ltD (lnkOf D a) = isort ltD (lnkOf L a) := isort_of_perm swoD antiD (lnkOf_perm hp a)
theorem refOf_perm {L M : List TI.T} (h : L.Perm M) (q : PR.T → Bool) : (refOf q L).Perm (refOf q M) := (h.filter _).map _
theorem lenRs {L D : List TI.T} (hn : L.length ≤ 3518437208883) (hp : D.Perm L) (q : PR.T → Bool) : (refOf q D).length ≤ 3518437208883 := by
 unfold refOf
 rw [List.length_map]
 exact Nat.le_trans (List.length_filter_le _ _) (hp.length_eq ▸ hn)
theorem lenRd (q : PR.T → Bool) (D : List TI.T) : ((refOf q D).length : Int) ≤ D.length := by
 unfold refOf
 rw [List.length_map]
 have := List.length_filter_le (fun p : TI.T => q p.2) D
 omega
theorem refsPerm {L D : List TI.T} (hp : D.Perm L) (q : PR.T → Bool) : isort ltI (refOf q D) = isort ltI (refOf q L) := isort_of_perm swoI antiI (refOf_perm hp q)
def q35 (a : PD.T) (w : PR.T) : Bool := eqb PD w.2.1 a && !(eqb PR w ((a, (a, ())) : PR.T))
def q36 (a : PD.T) (w : PR.T) : Bool := eqb PD w.1 a || eqb PD w.2.1 a
def q37 (a : PD.T) (w : PR.T) : Bool := eqb PD w.2.1 a
def q40 (w : PR.T) : Bool := true
theorem wentL {es : Array MapEntry} {ck : Nat} {seen : Array Nat} {L D : List PR.T} (hB : BagOk (L.map enL) es ck) (hn : L.Nodup) (h : Went enL es seen D) : D.Nodup := by
 have := went_nodup enL_inj (fun x : PR.T => x) hB h (by rw [List.map_id']; exact hn)
 rwa [List.map_id'] at this
theorem wentM {es : Array MapEntry} {ck : Nat} {seen : Array Nat} {L D : List TI.T} (hB : BagOk (L.map enM) es ck) (hn : Uniq L) (h : Went enM es seen D) : Uniq D := went_nodup enM_inj _ hB h hn
theorem nd_left {D : List PR.T} {x : PR.T} (h : (D ++ [x]).Nodup) : D.Nodup := (List.nodup_append.1 h).1
theorem uq_left {D : List TI.T} {x : TI.T} (h : Uniq (D ++ [x])) : Uniq D := by
 unfold Uniq at h ⊢
 rw [List.map_append] at h
 exact (List.nodup_append.1 h).1
theorem lins_new {D : List PR.T} {x : PR.T} (h : (D ++ [x]).Nodup) : lins D x = D ++ [x] := by
 unfold lins ldel
 rw [List.filter_eq_self.2 fun y hy => ?_]
 rw [Bool.not_eq_true', Bool.eq_false_iff]
 intro he
 have := eqPR_iff.1 he
 subst this
 exact (List.nodup_append.1 h).2.2 x hy x (by simp) rfl
theorem mins_new {D : List TI.T} {x : TI.T} (h : Uniq (D ++ [x])) : mins D x.1 x.2 = D ++ [x] := by
 unfold mins mdel
 rw [List.filter_eq_self.2 fun y hy => ?_]
 unfold Uniq at h
 rw [List.map_append] at h
 rw [Bool.not_eq_true', Bool.eq_false_iff]
 intro he
 have he : x.1 = y.1 := by simpa using he
 exact (List.nodup_append.1 h).2.2 y.1 (List.mem_map_of_mem hy) x.1 (by simp) he.symm
end Go.Proofs.Ytjhgjbagmkiibaa
end
section
namespace Go.Proofs.Ytjhgjbagmkiibaa.E0
open Go.Lg
set_option linter.unusedVariables false
set_option maxRecDepth 100000
set_option maxHeartbeats 8000000
set_option linter.unusedSimpArgs false
def liveT : List (Nat × List (Nat × List Nat)) := [(7, [(0, []), (1, [0])]),
 (10, [(0, [0, 3]), (1, [0, 3, 9]), (2, [4]), (3, [0, 3, 5]), (4, [3, 5, 14]), (5, [3, 5, 14, 16]), (6, [3, 5, 6, 14]), (7, [3, 5, 6, 14, 22]), (8, [3, 5, 14]), (9, [3, 5, 6, 14, 31]), (10, [3, 5, 14]), (11, [5]), (12, [4])]),
 (16, [(0, [0]), (1, [0, 7]), (2, [2]), (3, [0, 3]), (4, [0, 3, 12]), (5, [0, 3, 12, 14]), (6, [0, 3, 4, 12]), (7, [0, 3, 12]), (8, [0, 3]), (9, [2])]),
 (24, [(0, [0]), (1, [0, 9]), (2, [2]), (3, [0, 3]), (4, [0, 3, 15]), (5, [0, 3, 15, 17]), (6, [0, 3, 4, 15]), (7, [0, 3, 15]), (8, [3, 29]), (9, [3, 29, 31]), (10, [3, 5, 6, 29]), (11, [3, 29]), (12, [2])]),
 (29, [(0, [0]), (1, [2])]),
 (33, [(0, [0, 1]), (1, [0, 1, 5]), (2, [0, 5, 9, 10, 11]), (3, [0, 5, 9, 10, 11, 12]), (4, [0, 5, 7, 9, 10, 11]), (5, [0, 5, 7, 8, 9, 10, 11]), (6, [0, 5, 9, 10, 11]), (7, [0, 5, 9, 10, 11]), (8, [4])]),
 (34, [(0, [0, 1]), (1, [0, 1, 5]), (2, [1, 5, 12]), (3, [1, 5, 12, 14]), (4, [1, 5, 6, 7, 12]), (5, [1, 5, 6, 12, 20]), (6, [1, 5, 12]), (7, [5]), (8, [4])]),
 (35, [(0, [1, 2]), (1, [3])]),
 (36, [(0, [1, 2]), (1, [3])]),
 (37, [(0, [1, 2]), (1, [3])]),
 (40, [(0, []), (1, [2])])]
def loopT : List (Nat × List (Nat × (List Nat × Bool))) := [(10, [(5, ([3, 5, 14], false))]),
 (16, [(5, ([0, 3, 12], false))]),
 (24, [(5, ([0, 3, 15], false)), (9, ([3, 29], false))]),
 (33, [(3, ([0, 5, 9, 10, 11], false))]),
 (34, [(3, ([1, 5, 12], false))])]
def maskT : List (Nat × List (Nat × List (Nat × (Bool × List Nat)))) := []
def tab {α : Type} (T : List (Nat × List (Nat × α))) (f r : Nat) : Option α := (T.lookup f).bind (List.lookup r)
def specT (f : Nat) : Option (List Y → Go.Lg.Heap → Option (List Y × Go.Lg.Heap)) := if f = 30 then some sort30 else if f = 38 then some sort38 else if f = 52 then some sort52 else none
abbrev an : Ann := { pureSl := fun _ => true, dryB := fun t => t == 32 || t == 75 || t == 35, bagT := fun t => t == 58 || t == 59, pureFn := fun _ => false, live := tab liveT, loop := tab loopT, mask := fun f r i => (tab maskT f r).bind (List.lookup i), may := fun f => [7, 29, 35, 36, 37, 40].contains f, spec := specT }
theorem spec_ok : ∀ f sp, an.spec f = some sp → SpOk pg f sp ∧ SpHid sp := by
 intro f sp h
 change specT f = some sp at h
 unfold specT at h
 split at h
 ·rename_i hf; subst hf; cases h; exact ⟨sort30_ok, sort30_hid⟩
 split at h
 ·rename_i hf; subst hf; cases h; exact ⟨sort38_ok, sort38_hid⟩
 split at h
 ·rename_i hf; subst hf; cases h; exact ⟨sort52_ok, sort52_hid⟩
 ·cases h
theorem aok : AnnOk pg an := annOk_of (by kernel_rfl) spec_ok
theorem pok : POk pg := pOk_of (by kernel_rfl)
end Go.Proofs.Ytjhgjbagmkiibaa.E0
end
section
namespace Go.Proofs.Ytjhgjbagmkiibaa.E0
open Go.Lg
set_option linter.unusedVariables false
set_option maxRecDepth 100000
set_option maxHeartbeats 8000000
set_option linter.unusedSimpArgs false
theorem links_x (R : HP) (H : Go.Lg.Heap) (tt l mo ck : Nat) (es : Array MapEntry) (L : List PR.T) (a : PD.T) (hs : On [R, pts tt (.obj [.mp l, .mp mo]), pts l (mapO es ck)] H) (hB : BagOk (L.map enL) es ck) (hok : L.all okL = true) (hn : L.length ≤ 3518437208883) : XWp pg an 10 (Try.f10.body.getD .skip) [(0, .y (.one (.ptr tt 0))), (1, .y (.agg [vi a.1, vi a.2.1]))] H fun x e9 H9 => (x = .normal ∨ x = .ret) ∧ ∃ ys, (∀ H8, Try.f10.results.toList.mapM (resX pg e9 H8) = some ys) ∧ ∃ c, ys = [.one c] ∧ On [R, pts tt (.obj [.mp l, .mp mo]), pts l (mapO es ck), ownP PD c (isort ltD (lnkOf L a))] H9 := by
 unfold Try.f10
 show XWp _ _ _ _ [(0, .y (.one (.ptr tt 0))), (1, .y (.agg [vi a.1, vi a.2.1]))] H _
 obtain ⟨n1, hn1⟩ : ∃ n, n = List.length (H : Go.Lg.Heap) := ⟨_, rfl⟩
 refine XWp.regionSeq [(0, .y (.one (.ptr n1 0)), (H ++ [.obj [vi a.1, vi a.2.1]]))] [(0, .y (.one (.ptr tt 0))), (3, .y (.one (.ptr n1 0)))] (H ++ [.obj [vi a.1, vi a.2.1]])
   (cast (And.intro (ob_box (P := pg) (A := an) (H := H) (t := 24) (ty := 0) (n := n1) (v := .agg [vi a.1, vi a.2.1]) (cs := [vi a.1, vi a.2.1]) hn1 (by kernel_rfl) (by kernel_rfl) (by kernel_rfl)) trivial) (by kernel_rfl)) (by kernel_rfl) ?_
 refine XWp.gen (cs := [R, pts tt (.obj [.mp l, .mp mo]), pts l (mapO es ck), pts n1 (.obj [vi a.1, vi a.2.1])]) (On.new' hn1 (.obj [vi a.1, vi a.2.1]) hs) ?_
 intro H2 hs3
 refine XWp.seq ?_
 have hcall4 : Runs pg an 29 [.one (.ptr tt 0)] H2 [.one (vb true)] H2 := by
  refine runs_of ?_
  refine Runs.of (fn := Try.f29) Try.func29 rfl (by kernel_rfl) [(0, .y (.one (.ptr tt 0)))] (by kernel_rfl) ?_
  refine rSq [] [(0, .y (.one (.ptr tt 0)))] H2
    (cast trivial (by kernel_rfl)) (by kernel_rfl) ?_
  refine rSq [(6, .y (.one (.mp l)), H2)] [(2, xb true)] H2
    (cast (And.intro (ob_load_ptr (P := pg) (A := an) (H := H2) (t := 58) (ty := 0) (id := tt) (off := 0) (n := 1) (cs := [.mp l, .mp mo]) (cs' := [.mp l]) (v := .one (.mp l)) (On.at hs3 1 rfl) (by kernel_rfl) (by kernel_rfl) (by kernel_rfl) (by kernel_rfl)) trivial) (by kernel_rfl)) (by kernel_rfl) ?_
  refine wE ?_
  exact ⟨Or.inr rfl, [.one (vb true)], (by kernel_rfl), ⟨rfl, rfl⟩⟩
 refine XWp.regionSeq [(1, xb true, H2)] [(0, .y (.one (.ptr tt 0))), (3, .y (.one (.ptr n1 0))), (9, xb false)] H2
   (cast (And.intro (ob_call (P := pg) (A := an) (H := H2) (g := 29) (vals := [.y (.one (.ptr tt 0))]) (xs0 := [.one (.ptr tt 0)]) (res := [.one (vb true)]) (ats := #[]) (ty := 0) (v := xb true) (H' := H2) [.tmp 0] (by kernel_rfl) (by kernel_rfl) hcall4 (by kernel_rfl)) trivial) (by kernel_rfl)) (by kernel_rfl) ?_
 refine XWp.condF (by kernel_rfl) ?_
 refine XWp.skip ?_
 refine XWp.regionSeq [] [(0, .y (.one (.ptr tt 0))), (3, .y (.one (.ptr n1 0))), (5, .y (.one (.sl false true true [] 0)))] H2
   (cast trivial (by kernel_rfl)) (by kernel_rfl) ?_
 refine XWp.seq ?_
 obtain ⟨n5, hn5⟩ : ∃ n, n = List.length (H2 : Go.Lg.Heap) := ⟨_, rfl⟩
 refine XWp.regionSeq [(3, .y (.one (.mp l)), H2), (4, .y (.one (.it n5)), (H2 ++ [iterO l ck #[]]))] [(3, .y (.one (.ptr n1 0))), (5, .y (.one (.sl false true true [] 0))), (14, .y (.one (.it n5)))] (H2 ++ [iterO l ck #[]])
   (cast (And.intro (ob_load_ptr (P := pg) (A := an) (H := H2) (t := 58) (ty := 0) (id := tt) (off := 0) (n := 1) (cs := [.mp l, .mp mo]) (cs' := [.mp l]) (v := .one (.mp l)) (On.at hs3 1 rfl) (by kernel_rfl) (by kernel_rfl) (by kernel_rfl) (by kernel_rfl)) (And.intro (ob_range (P := pg) (A := an) (H := H2) (t := 58) (ty := 0) (m := l) (n := n5) (ck := ck) (es := es) hn5 (by kernel_rfl) (On.at hs3 2 rfl)) trivial)) (by kernel_rfl)) (by kernel_rfl) ?_
 refine XWp.gen (cs := [R, pts tt (.obj [.mp l, .mp mo]), pts l (mapO es ck), pts n1 (.obj [vi a.1, vi a.2.1]), pts n5 (iterO l ck #[])]) (On.new' hn5 (iterO l ck #[]) hs3) ?_
 intro H6 hs7
 refine XWp.block ?_
 have hs8 : On [R, pts tt (.obj [.mp l, .mp mo]), pts l (mapO es ck), pts n1 (.obj [vi a.1, vi a.2.1]), pts n5 (iterO l ck #[]), ownP PD (.sl false true true [] 0) (lnkOf ([] : List PR.T) a)] H6 := On.shut (cs := [R, pts tt (.obj [.mp l, .mp mo]), pts l (mapO es ck), pts n1 (.obj [vi a.1, vi a.2.1]), pts n5 (iterO l ck #[])]) [] [0, 1, 2, 3, 4] (by kernel_rfl) (fun _ _ => by rw [show (lnkOf ([] : List PR.T) a) = ([] : List PD.T) from rfl]; exact .inl ⟨rfl, rfl⟩) hs7
 refine XWp.loop (T := Go.Lg.Heap × Nat × Array Nat × List PR.T × C) (fun (t : Go.Lg.Heap × Nat × Array Nat × List PR.T × C) => match t with | (H10, it, seen, D, cv) => (L.length - D.length : Nat)) (fun (t : Go.Lg.Heap × Nat × Array Nat × List PR.T × C) => match t with | (H10, it, seen, D, cv) => ([(3, .y (.one (.ptr n1 0))), (5, .y (.one (cv))), (14, .y (.one (.it it)))] : Env)) (fun (t : Go.Lg.Heap × Nat × Array Nat × List PR.T × C) => match t with | (H10, it, seen, D, cv) => (H10 : Go.Lg.Heap))
   (fun (t : Go.Lg.Heap × Nat × Array Nat × List PR.T × C) => match t with | (H10, it, seen, D, cv) => (On [R, pts tt (.obj [.mp l, .mp mo]), pts l (mapO es ck), pts n1 (.obj [vi a.1, vi a.2.1]), pts it (iterO l ck seen), ownP PD cv (lnkOf D a)] H10 ∧ (Went enL es seen D) : Prop)) (H6, n5, #[], [], (.sl false true true [] 0)) (by kernel_rfl) (⟨(On.pick [0, 1, 2, 3, 4, 5] [] (by kernel_rfl) hs8), went_nil _ _⟩) ?_
 rintro ⟨H10, it, seen, D, cv⟩ ⟨hs11, hW⟩
 show XWp _ _ _ _ [(3, .y (.one (.ptr n1 0))), (5, .y (.one (cv))), (14, .y (.one (.it it)))] H10 _
 refine XWp.nextE (L := L) (D := D) (eF := [(3, .y (.one (.ptr n1 0))), (5, .y (.one (cv))), (14, .y (.one (.it it))), (16, xb false)]) (eT := [(3, .y (.one (.ptr n1 0))), (5, .y (.one (cv))), (14, .y (.one (.it it))), (16, xb true)]) enL_inj ⟨rfl, rfl, rfl⟩ ⟨rfl, rfl, rfl⟩ rfl (On.at hs11 4 rfl) (On.at hs11 2 rfl) hB hW (by kernel_rfl) (fun _ _ => by kernel_rfl) ?_ ?_
 ·
  intro hp12
  refine XWp.seq ?_
  refine XWp.condF (by kernel_rfl) ?_
  refine XWp.exit ?_
  refine Eq.mpr (if_pos rfl) ?_
  obtain ⟨_, H13, hr14, rfl, hs15⟩ := sortD (A := an) rfl rfl _ (H10 : Go.Lg.Heap) (c := cv) (l := (lnkOf D a)) (okLs hok hp12 _) (lenLs hn hp12 _) (On.call [5] [0, 1, 2, 3, 4] (by kernel_rfl) hs11)
  have hs15 : On [R, pts tt (.obj [.mp l, .mp mo]), pts l (mapO es ck), pts n1 (.obj [vi a.1, vi a.2.1]), pts it (iterO l ck seen), ownP PD cv (isort ltD (lnkOf D a))] H13 := On.flat hs15
  refine XWp.regionSeq [(1, .tup [], H13)] [(5, .y (.one (cv)))] H13
    (cast (And.intro (ob_call (P := pg) (A := an) (H := H10) (g := 30) (vals := [.y (.one (cv)), .y (.one (.fn (.func 31) [] []))]) (xs0 := [.one (cv), .one (.fn (.func 31) [] [])]) (res := []) (ats := #[]) (ty := 0) (v := .tup []) (H' := H13) [.tmp 0, .tmp 1] (by kernel_rfl) (by kernel_rfl) hr14 (by kernel_rfl)) trivial) (by kernel_rfl)) (by kernel_rfl) ?_
  refine XWp.gen (cs := [R, pts tt (.obj [.mp l, .mp mo]), pts l (mapO es ck), pts n1 (.obj [vi a.1, vi a.2.1]), pts it (iterO l ck seen), ownP PD cv (isort ltD (lnkOf D a))]) hs15 ?_
  intro H16 hs17
  refine XWp.regionSeq [] [(4, .y (.one (cv)))] H16
    (cast trivial (by kernel_rfl)) (by kernel_rfl) ?_
  refine XWp.ret ?_
  refine ⟨Or.inr rfl, [.one (cv)], fun _ => by kernel_rfl, ?_⟩
  exact ⟨cv, rfl, by rw [← linksPerm hp12 a]; exact (On.pick [0, 1, 2, 5] [3, 4] (by kernel_rfl) hs17)⟩
 ·
  intro x18 d19 hx20 hd21 he22 hw23 hl24
  refine XWp.gen (cs := [R, pts tt (.obj [.mp l, .mp mo]), pts l (mapO es ck), pts n1 (.obj [vi a.1, vi a.2.1]), pts it (iterO l ck (Array.push seen d19.born)), ownP PD cv (lnkOf D a)]) (On.put (iterO l ck (Array.push seen d19.born)) hs11 4 rfl) ?_
  intro H25 hs26
  have hL27 : ((lnkOf D a).length : Int) ≤ D.length := by have := List.length_filterMap_le (fun p : PR.T => if eqb PD p.1 a then some p.2.1 else if eqb PD p.2.1 a then some p.1 else none) D; unfold lnkOf; omega
  refine XWp.seq ?_
  refine XWp.condT (by kernel_rfl) ?_
  refine XWp.skip ?_
  refine XWp.block ?_
  obtain ⟨n28, hn28⟩ : ∃ n, n = List.length (H25 : Go.Lg.Heap) := ⟨_, rfl⟩
  refine XWp.regionSeq [(0, .tup [.agg [vi x18.1.1, vi x18.1.2.1, vi x18.2.1.1, vi x18.2.1.2.1], .one (vi 1)], H25), (2, .y (.one (.ptr n28 0)), (H25 ++ [.obj [vi 0, vi 0, vi 0, vi 0]])), (3, .tup [], (List.set (α := O) (H25 ++ [.obj [vi 0, vi 0, vi 0, vi 0]]) n28 (.obj [vi x18.1.1, vi x18.1.2.1, vi x18.2.1.1, vi x18.2.1.2.1])))] [(3, .y (.one (.ptr n1 0))), (5, .y (.one (cv))), (6, .y (.one (.ptr n28 0))), (14, .y (.one (.it it)))] (List.set (α := O) (H25 ++ [.obj [vi 0, vi 0, vi 0, vi 0]]) n28 (.obj [vi x18.1.1, vi x18.1.2.1, vi x18.2.1.1, vi x18.2.1.2.1]))
    (cast (And.intro (ob_entry (P := pg) (A := an) (H := H25) (ty := 0) (it := it) (k := .agg [vi x18.1.1, vi x18.1.2.1, vi x18.2.1.1, vi x18.2.1.2.1]) (v := .one (vi 1)) (On.at hs26 4 rfl) (On.at hs26 2 rfl) hB.2.1 hd21 (by rw [← (Prod.mk.inj he22).1]; exact ofV_PR x18) (by rw [← (Prod.mk.inj he22).2]; rfl)) (And.intro (ob_alloc (P := pg) (A := an) (H := H25) (t := 67) (ty := 0) (n := n28) (cs := [vi 0, vi 0, vi 0, vi 0]) hn28 (by kernel_rfl)) (And.intro (ob_store_ptr (P := pg) (A := an) (H := (H25 ++ [.obj [vi 0, vi 0, vi 0, vi 0]])) (t := 67) (ty := 0) (id := n28) (off := 0) (cs := [vi 0, vi 0, vi 0, vi 0]) (cs' := [vi x18.1.1, vi x18.1.2.1, vi x18.2.1.1, vi x18.2.1.2.1]) (v := .agg [vi x18.1.1, vi x18.1.2.1, vi x18.2.1.1, vi x18.2.1.2.1]) (On.at (On.new' hn28 (.obj [vi 0, vi 0, vi 0, vi 0]) hs26) 6 rfl) (by kernel_rfl) (by kernel_rfl) (by kernel_rfl)) trivial))) (by kernel_rfl)) (by kernel_rfl) ?_
  refine XWp.gen (cs := [R, pts tt (.obj [.mp l, .mp mo]), pts l (mapO es ck), pts n1 (.obj [vi a.1, vi a.2.1]), pts it (iterO l ck (Array.push seen d19.born)), ownP PD cv (lnkOf D a), pts n28 (.obj [vi x18.1.1, vi x18.1.2.1, vi x18.2.1.1, vi x18.2.1.2.1])]) (On.put (.obj [vi x18.1.1, vi x18.1.2.1, vi x18.2.1.1, vi x18.2.1.2.1]) (On.new' hn28 (.obj [vi 0, vi 0, vi 0, vi 0]) hs26) 6 rfl) ?_
  intro H29 hs30
  rcases Bool.eq_false_or_eq_true ((eqb PD x18.1 a)) with c31 | c31
  ·
   refine XWp.regionSeq [(1, .y (.agg [vi x18.1.1, vi x18.1.2.1]), H29), (2, .y (.agg [vi a.1, vi a.2.1]), H29), (3, xb true, H29)] [(3, .y (.one (.ptr n1 0))), (5, .y (.one (cv))), (6, .y (.one (.ptr n28 0))), (14, .y (.one (.it it))), (22, xb true)] H29
     (cast (And.intro (ob_load_ptr (P := pg) (A := an) (H := H29) (t := 24) (ty := 0) (id := n28) (off := 0) (n := 2) (cs := [vi x18.1.1, vi x18.1.2.1, vi x18.2.1.1, vi x18.2.1.2.1]) (cs' := [vi x18.1.1, vi x18.1.2.1]) (v := .agg [vi x18.1.1, vi x18.1.2.1]) (On.at hs30 6 rfl) (by kernel_rfl) (by kernel_rfl) (by kernel_rfl) (by kernel_rfl)) (And.intro (ob_load_ptr (P := pg) (A := an) (H := H29) (t := 24) (ty := 0) (id := n1) (off := 0) (n := 2) (cs := [vi a.1, vi a.2.1]) (cs' := [vi a.1, vi a.2.1]) (v := .agg [vi a.1, vi a.2.1]) (On.at hs30 3 rfl) (by kernel_rfl) (by kernel_rfl) (by kernel_rfl) (by kernel_rfl)) (And.intro (ob_eq_agg (P := pg) (A := an) (H := H29) (s := PD) (t := 24) (u := 24) (ty := 0) (x := x18.1) (y := a) (r := true) (by kernel_rfl) c31) trivial))) (by kernel_rfl)) (by kernel_rfl) ?_
   refine XWp.condT (by kernel_rfl) ?_
   obtain ⟨cv32, H33, ho34, hs35⟩ := or_append_own (P := pg) (A := an) (s := PD) (t := 32) (u := 32) (el := 24) (by_ := 16) (z := [vi 0, vi 0]) (ty := 0) (y := .sl false false true [vi x18.2.1.1, vi x18.2.1.2.1] 1) (lm := ([x18.2.1])) (m := 1) hs30 5 rfl ((slCells_slO (H := H29) (s := PD) (b := false) (nil := false) (capd := true) (l := [x18.2.1]) (n := 1) (by first | rfl | omega | (simp only [List.length_nil]; omega) | (simp; done) | (simp; omega)))) (by kernel_rfl) (by kernel_rfl) (by kernel_rfl) (by kernel_rfl) (by kernel_rfl) (by kernel_rfl) (by kernel_rfl) (by first | rfl | omega | (simp only [List.length_nil]; omega) | (simp; done) | (simp; omega)) (by omega) (by omega)
   have hs35l : (((lnkOf D a) ++ ([x18.2.1])).length : Int) = (((lnkOf D a).length : Int) + 1) := by { first | omega | (simp only [List.length_append]; omega) | (simp; done) | (simp; omega) }
   refine XWp.regionK [(2, .y (.agg [vi x18.2.1.1, vi x18.2.1.2.1]), H29), (4, .y (.one (cv32)), H33)] [(3, .y (.one (.ptr n1 0))), (5, .y (.one (cv32))), (14, .y (.one (.it it)))] H33
     (cast (And.intro (ob_load_ptr (P := pg) (A := an) (H := H29) (t := 24) (ty := 0) (id := n28) (off := 2) (n := 2) (cs := [vi x18.1.1, vi x18.1.2.1, vi x18.2.1.1, vi x18.2.1.2.1]) (cs' := [vi x18.2.1.1, vi x18.2.1.2.1]) (v := .agg [vi x18.2.1.1, vi x18.2.1.2.1]) (On.at hs30 6 rfl) (by kernel_rfl) (by kernel_rfl) (by kernel_rfl) (by kernel_rfl)) (And.intro ho34 trivial)) (by kernel_rfl)) (by kernel_rfl) ?_
   refine wG (cs := [R, pts tt (.obj [.mp l, .mp mo]), pts l (mapO es ck), pts n1 (.obj [vi a.1, vi a.2.1]), pts it (iterO l ck (Array.push seen d19.born)), pts n28 (.obj [vi x18.1.1, vi x18.1.2.1, vi x18.2.1.1, vi x18.2.1.2.1]), ownP PD cv32 ((lnkOf D a) ++ ([x18.2.1]))]) hs35 ?_
   intro H36 hs37
   refine wK ?_
   exact ⟨(H36, it, (Array.push seen d19.born), (D ++ [x18]), cv32), by kernel_rfl, (⟨(On.pick [0, 1, 2, 3, 4, 6] [5] (by kernel_rfl) (On.mono (A' := ownP PD cv32 (lnkOf (D ++ [x18]) a)) 6 rfl (fun _ x => by rw [← (show ((lnkOf D a) ++ ([x18.2.1])) = (lnkOf (D ++ [x18]) a) from by rw [lnkOf_snoc]; simp only [c31, if_true, if_false, Bool.false_eq_true, List.append_nil])]; exact x) hs37)), hw23⟩), (by show (_ : Nat) < _; simp only [List.length_append, List.length_cons, List.length_nil]; omega)⟩
  ·
   refine XWp.regionSeq [(1, .y (.agg [vi x18.1.1, vi x18.1.2.1]), H29), (2, .y (.agg [vi a.1, vi a.2.1]), H29), (3, xb false, H29)] [(3, .y (.one (.ptr n1 0))), (5, .y (.one (cv))), (6, .y (.one (.ptr n28 0))), (14, .y (.one (.it it))), (22, xb false)] H29
     (cast (And.intro (ob_load_ptr (P := pg) (A := an) (H := H29) (t := 24) (ty := 0) (id := n28) (off := 0) (n := 2) (cs := [vi x18.1.1, vi x18.1.2.1, vi x18.2.1.1, vi x18.2.1.2.1]) (cs' := [vi x18.1.1, vi x18.1.2.1]) (v := .agg [vi x18.1.1, vi x18.1.2.1]) (On.at hs30 6 rfl) (by kernel_rfl) (by kernel_rfl) (by kernel_rfl) (by kernel_rfl)) (And.intro (ob_load_ptr (P := pg) (A := an) (H := H29) (t := 24) (ty := 0) (id := n1) (off := 0) (n := 2) (cs := [vi a.1, vi a.2.1]) (cs' := [vi a.1, vi a.2.1]) (v := .agg [vi a.1, vi a.2.1]) (On.at hs30 3 rfl) (by kernel_rfl) (by kernel_rfl) (by kernel_rfl) (by kernel_rfl)) (And.intro (ob_eq_agg (P := pg) (A := an) (H := H29) (s := PD) (t := 24) (u := 24) (ty := 0) (x := x18.1) (y := a) (r := false) (by kernel_rfl) c31) trivial))) (by kernel_rfl)) (by kernel_rfl) ?_
   refine XWp.condF (by kernel_rfl) ?_
   rcases Bool.eq_false_or_eq_true ((eqb PD x18.2.1 a)) with c38 | c38
   ·
    refine XWp.regionSeq [(1, .y (.agg [vi x18.2.1.1, vi x18.2.1.2.1]), H29), (2, .y (.agg [vi a.1, vi a.2.1]), H29), (3, xb true, H29)] [(3, .y (.one (.ptr n1 0))), (5, .y (.one (cv))), (6, .y (.one (.ptr n28 0))), (14, .y (.one (.it it))), (31, xb true)] H29
      (cast (And.intro (ob_load_ptr (P := pg) (A := an) (H := H29) (t := 24) (ty := 0) (id := n28) (off := 2) (n := 2) (cs := [vi x18.1.1, vi x18.1.2.1, vi x18.2.1.1, vi x18.2.1.2.1]) (cs' := [vi x18.2.1.1, vi x18.2.1.2.1]) (v := .agg [vi x18.2.1.1, vi x18.2.1.2.1]) (On.at hs30 6 rfl) (by kernel_rfl) (by kernel_rfl) (by kernel_rfl) (by kernel_rfl)) (And.intro (ob_load_ptr (P := pg) (A := an) (H := H29) (t := 24) (ty := 0) (id := n1) (off := 0) (n := 2) (cs := [vi a.1, vi a.2.1]) (cs' := [vi a.1, vi a.2.1]) (v := .agg [vi a.1, vi a.2.1]) (On.at hs30 3 rfl) (by kernel_rfl) (by kernel_rfl) (by kernel_rfl) (by kernel_rfl)) (And.intro (ob_eq_agg (P := pg) (A := an) (H := H29) (s := PD) (t := 24) (u := 24) (ty := 0) (x := x18.2.1) (y := a) (r := true) (by kernel_rfl) c38) trivial))) (by kernel_rfl)) (by kernel_rfl) ?_
    refine XWp.condT (by kernel_rfl) ?_
    obtain ⟨cv39, H40, ho41, hs42⟩ := or_append_own (P := pg) (A := an) (s := PD) (t := 32) (u := 32) (el := 24) (by_ := 16) (z := [vi 0, vi 0]) (ty := 0) (y := .sl false false true [vi x18.1.1, vi x18.1.2.1] 1) (lm := ([x18.1])) (m := 1) hs30 5 rfl ((slCells_slO (H := H29) (s := PD) (b := false) (nil := false) (capd := true) (l := [x18.1]) (n := 1) (by first | rfl | omega | (simp only [List.length_nil]; omega) | (simp; done) | (simp; omega)))) (by kernel_rfl) (by kernel_rfl) (by kernel_rfl) (by kernel_rfl) (by kernel_rfl) (by kernel_rfl) (by kernel_rfl) (by first | rfl | omega | (simp only [List.length_nil]; omega) | (simp; done) | (simp; omega)) (by omega) (by omega)
    have hs42l : (((lnkOf D a) ++ ([x18.1])).length : Int) = (((lnkOf D a).length : Int) + 1) := by { first | omega | (simp only [List.length_append]; omega) | (simp; done) | (simp; omega) }
    refine XWp.regionK [(2, .y (.agg [vi x18.1.1, vi x18.1.2.1]), H29), (4, .y (.one (cv39)), H40)] [(3, .y (.one (.ptr n1 0))), (5, .y (.one (cv39))), (14, .y (.one (.it it)))] H40
      (cast (And.intro (ob_load_ptr (P := pg) (A := an) (H := H29) (t := 24) (ty := 0) (id := n28) (off := 0) (n := 2) (cs := [vi x18.1.1, vi x18.1.2.1, vi x18.2.1.1, vi x18.2.1.2.1]) (cs' := [vi x18.1.1, vi x18.1.2.1]) (v := .agg [vi x18.1.1, vi x18.1.2.1]) (On.at hs30 6 rfl) (by kernel_rfl) (by kernel_rfl) (by kernel_rfl) (by kernel_rfl)) (And.intro ho41 trivial)) (by kernel_rfl)) (by kernel_rfl) ?_
    refine wG (cs := [R, pts tt (.obj [.mp l, .mp mo]), pts l (mapO es ck), pts n1 (.obj [vi a.1, vi a.2.1]), pts it (iterO l ck (Array.push seen d19.born)), pts n28 (.obj [vi x18.1.1, vi x18.1.2.1, vi x18.2.1.1, vi x18.2.1.2.1]), ownP PD cv39 ((lnkOf D a) ++ ([x18.1]))]) hs42 ?_
    intro H43 hs44
    refine wK ?_
    exact ⟨(H43, it, (Array.push seen d19.born), (D ++ [x18]), cv39), by kernel_rfl, (⟨(On.pick [0, 1, 2, 3, 4, 6] [5] (by kernel_rfl) (On.mono (A' := ownP PD cv39 (lnkOf (D ++ [x18]) a)) 6 rfl (fun _ x => by rw [← (show ((lnkOf D a) ++ ([x18.1])) = (lnkOf (D ++ [x18]) a) from by rw [lnkOf_snoc]; simp only [c31, c38, if_true, if_false, Bool.false_eq_true, List.append_nil])]; exact x) hs44)), hw23⟩), (by show (_ : Nat) < _; simp only [List.length_append, List.length_cons, List.length_nil]; omega)⟩
   ·
    refine XWp.regionSeq [(1, .y (.agg [vi x18.2.1.1, vi x18.2.1.2.1]), H29), (2, .y (.agg [vi a.1, vi a.2.1]), H29), (3, xb false, H29)] [(3, .y (.one (.ptr n1 0))), (5, .y (.one (cv))), (6, .y (.one (.ptr n28 0))), (14, .y (.one (.it it))), (31, xb false)] H29
      (cast (And.intro (ob_load_ptr (P := pg) (A := an) (H := H29) (t := 24) (ty := 0) (id := n28) (off := 2) (n := 2) (cs := [vi x18.1.1, vi x18.1.2.1, vi x18.2.1.1, vi x18.2.1.2.1]) (cs' := [vi x18.2.1.1, vi x18.2.1.2.1]) (v := .agg [vi x18.2.1.1, vi x18.2.1.2.1]) (On.at hs30 6 rfl) (by kernel_rfl) (by kernel_rfl) (by kernel_rfl) (by kernel_rfl)) (And.intro (ob_load_ptr (P := pg) (A := an) (H := H29) (t := 24) (ty := 0) (id := n1) (off := 0) (n := 2) (cs := [vi a.1, vi a.2.1]) (cs' := [vi a.1, vi a.2.1]) (v := .agg [vi a.1, vi a.2.1]) (On.at hs30 3 rfl) (by kernel_rfl) (by kernel_rfl) (by kernel_rfl) (by kernel_rfl)) (And.intro (ob_eq_agg (P := pg) (A := an) (H := H29) (s := PD) (t := 24) (u := 24) (ty := 0) (x := x18.2.1) (y := a) (r := false) (by kernel_rfl) c38) trivial))) (by kernel_rfl)) (by kernel_rfl) ?_
    refine XWp.condF (by kernel_rfl) ?_
    refine XWp.skip ?_
    exact ⟨(H29, it, (Array.push seen d19.born), (D ++ [x18]), cv), by kernel_rfl, (⟨(On.pick [0, 1, 2, 3, 4, 5] [6] (by kernel_rfl) (On.mono (A' := ownP PD cv (lnkOf (D ++ [x18]) a)) 5 rfl (fun _ x => by rw [← (show (lnkOf D a) = (lnkOf (D ++ [x18]) a) from by rw [lnkOf_snoc]; simp only [c31, c38, if_true, if_false, Bool.false_eq_true, List.append_nil])]; exact x) hs30)), hw23⟩), (by show (_ : Nat) < _; simp only [List.length_append, List.length_cons, List.length_nil]; omega)⟩
end Go.Proofs.Ytjhgjbagmkiibaa.E0
end
