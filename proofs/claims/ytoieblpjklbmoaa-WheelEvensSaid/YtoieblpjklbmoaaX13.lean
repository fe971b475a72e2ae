/-
 X, part 13: a region that draws its order, against the model's schedule.
-/
import Derived.Test.YtoieblpjklbmoaaX12
namespace Go.Lg
def un (ops : Array Oper) (listed : Array Bool) : List Nat := (List.range ops.size).filter fun i => !listed.getD i true
def Closed (ops : Array Oper) (listed : Array Bool) : Prop :=
 ∀ k o, listed.getD k false = true → ops[k]? = some o → ∀ e ∈ o.after.toList, Region.binds .any e = true → listed.getD e.on false = true
/-! ### 'before' -/
def befG (acc : Array Nat) (o : Oper) : Nat := o.after.foldl (fun s e => if Region.binds .any e then s ||| 2 ^ e.on ||| acc.getD e.on 0 else s) 0
theorem befG_bit {acc : Array Nat} {o : Oper} {j : Nat} (h : (befG acc o).testBit j = true) : ∃ e ∈ o.after.toList, Region.binds .any e = true ∧ (e.on = j ∨ (acc.getD e.on 0).testBit j = true) := by
 unfold befG at h
 rw [← Array.foldl_toList] at h
 have key : ∀ (l : List Edge) (s : Nat), (l.foldl (fun s e => if Region.binds .any e then s ||| 2 ^ e.on ||| acc.getD e.on 0 else s) s).testBit j = true → s.testBit j = true ∨ ∃ e ∈ l, Region.binds .any e = true ∧ (e.on = j ∨ (acc.getD e.on 0).testBit j = true) := by
  intro l
  induction l with
  | nil => intro s h; exact .inl h
  | cons e l ih =>
   intro s h
   rw [List.foldl_cons] at h
   rcases ih _ h with h1 | ⟨e', he', h1⟩
   ·by_cases hb : Region.binds .any e = true
    ·rw [if_pos hb] at h1
     simp only [Nat.testBit_or, Bool.or_eq_true] at h1
     rcases h1 with (h1 | h1) | h1
     ·exact .inl h1
     ·refine .inr ⟨e, by simp, hb, .inl ?_⟩
      rw [Nat.testBit_two_pow] at h1
      simpa using h1
     ·exact .inr ⟨e, by simp, hb, .inr h1⟩
    ·rw [if_neg hb] at h1; exact .inl h1
   ·exact .inr ⟨e', by simp [he'], h1⟩
 rcases key _ _ h with h | h
 ·simp at h
 ·exact h
theorem before_bit {ops : Array Oper} {i j : Nat} (h : ((Region.before ops).getD i 0).testBit j = true) :
  ∃ o, ops[i]? = some o ∧ ∃ e ∈ o.after.toList, Region.binds .any e = true ∧ (e.on = j ∨ (e.on < i ∧ ((Region.before ops).getD e.on 0).testBit j = true)) := by
 let Inv (n : Nat) (acc : Array Nat) : Prop := acc.size = n ∧ ∀ i j, (acc.getD i 0).testBit j = true → ∃ o, ops[i]? = some o ∧ ∃ e ∈ o.after.toList, Region.binds .any e = true ∧ (e.on = j ∨ (e.on < i ∧ (acc.getD e.on 0).testBit j = true))
 have key : ∀ (l pre : List Oper) (acc : Array Nat), ops.toList = pre ++ l → Inv pre.length acc → Inv ops.size (l.foldl (fun acc o => acc.push (befG acc o)) acc) := by
  intro l
  induction l with
  | nil =>
   intro pre acc h hi
   have : pre.length = ops.size := by rw [← Array.length_toList, h]; simp
   rw [← this]; exact hi
  | cons o l ih =>
   intro pre acc h hi
   rw [List.foldl_cons]
   refine ih (pre ++ [o]) _ (by simpa using h) ?_
   obtain ⟨hs, hb⟩ := hi
   have hget : ∀ k, k < acc.size → (acc.push (befG acc o)).getD k 0 = acc.getD k 0 := fun k hk => by
    simp only [Array.getD_eq_getD_getElem?, Array.getElem?_push]; rw [if_neg (by omega)]
   refine ⟨by simp [hs], fun i j hbit => ?_⟩
   by_cases hlt : i < acc.size
   ·rw [hget i hlt] at hbit
    obtain ⟨o', ho', e, he, hbd, hor⟩ := hb i j hbit
    refine ⟨o', ho', e, he, hbd, ?_⟩
    rcases hor with hor | ⟨h1, h2⟩
    ·exact .inl hor
    ·exact .inr ⟨h1, by rw [hget e.on (by omega)]; exact h2⟩
   ·by_cases heq : i = acc.size
    ·subst heq
     have : (acc.push (befG acc o)).getD acc.size 0 = befG acc o := by simp [Array.getD_eq_getD_getElem?]
     rw [this] at hbit
     obtain ⟨e, he, hbd, hor⟩ := befG_bit hbit
     refine ⟨o, ?_, e, he, hbd, ?_⟩
     ·rw [← Array.getElem?_toList, h, hs]; simp
     ·rcases hor with hor | hor
      ·exact .inl hor
      ·have hlt : e.on < acc.size := by
        rcases Nat.lt_or_ge e.on acc.size with h | h
        ·exact h
        ·rw [Array.getD_eq_getD_getElem?, Array.getElem?_eq_none h] at hor; simp at hor
       exact .inr ⟨hlt, by rw [hget _ hlt]; exact hor⟩
    ·rw [Array.getD_eq_getD_getElem?, Array.getElem?_eq_none (by simp; omega)] at hbit
     simp at hbit
 have := key ops.toList [] #[] rfl ⟨rfl, fun i j hb => by simp at hb⟩
 have e : Region.before ops = ops.toList.foldl (fun acc o => acc.push (befG acc o)) #[] := by
  unfold Region.before
  rw [← Array.foldl_toList]
  rfl
 rw [e] at h ⊢
 exact this.2 i j h
theorem before_listed {ops : Array Oper} {listed : Array Bool} (hc : Closed ops listed) : ∀ (i : Nat) {o : Oper} {j : Nat}, ops[i]? = some o → (∀ e ∈ o.after.toList, Region.binds .any e = true → listed.getD e.on false = true) →
  ((Region.before ops).getD i 0).testBit j = true → listed.getD j false = true := by
 intro i
 induction i using Nat.strongRecOn with
 | _ i ih =>
  intro o j ho ha hb
  obtain ⟨o', ho', e, he, hbd, hor⟩ := before_bit hb
  rw [ho] at ho'
  cases ho'
  rcases hor with rfl | ⟨hlt, hb'⟩
  ·exact ha e he hbd
  ·obtain ⟨oe, hoe, _⟩ := before_bit hb'
   exact ih e.on hlt hoe (hc e.on oe (ha e he hbd) hoe) hb'
theorem getD_tf {l : Array Bool} {i : Nat} (h : i < l.size) : l.getD i true = l.getD i false := by
 simp [Array.getD_eq_getD_getElem?, h]
section
variable {P : Program} {A : Ann} {K : Callee}
theorem drawOK_spec {mk : Nat → Option (Bool × List Nat)} {lt : List Nat} {ops : Array Oper} (h : drawOK A mk lt ops = true) {i : Nat} {oi : Oper} (ho : ops[i]? = some oi) :
  (∀ e ∈ oi.after.toList, Region.binds .any e = true → e.on < i) ∧ ∀ j oj, j < i → ops[j]? = some oj → ((Region.before ops).getD i 0).testBit j = true ∨ indep A mk lt ops j i oj oi = true := by
 unfold drawOK at h
 simp only [List.all_eq_true, List.mem_range] at h
 have hlt : i < ops.size := (Array.getElem?_eq_some_iff.1 ho).1
 have := h i hlt
 rw [ho] at this
 simp only [kA, Array.all_eq_true', List.all_eq_true, List.mem_range, Bool.or_eq_true, decide_eq_true_eq] at this
 obtain ⟨h1, h2⟩ := this
 refine ⟨fun e he hb => ?_, fun j oj hj hoj => ?_⟩
 ·have := h1 e (by simpa using he)
  rcases this with h | h
  ·rw [hb] at h; cases h
  ·exact h
 ·have := h2 j hj
  rw [hoj] at this
  exact this
theorem un_set {ops : Array Oper} {listed : Array Bool} (hs : listed.size = ops.size) {i : Nat} (hi : i < ops.size) : un ops (listed.setIfInBounds i true) = (un ops listed).filter fun j => decide (j ≠ i) := by
 unfold un
 rw [List.filter_filter]
 apply List.filter_congr
 intro j hj
 have hj' : j < ops.size := by simpa using hj
 simp only [Array.getD_eq_getD_getElem?, Array.getElem?_setIfInBounds]
 by_cases h : i = j
 ·subst h; simp [hs, hi]
 ·simp [h, Ne.symm h]
theorem nodup_split {l pre post : List Nat} {i : Nat} (hn : l.Nodup) (h : l = pre ++ i :: post) : (l.filter fun j => decide (j ≠ i)) = pre ++ post := by
 subst h
 rw [List.nodup_append] at hn
 obtain ⟨h1, h2, h3⟩ := hn
 rw [List.nodup_cons] at h2
 rw [List.filter_append, List.filter_cons]
 simp only [ne_eq, not_true, decide_false, Bool.false_eq_true, if_false]
 congr 1
 ·rw [List.filter_eq_self]
  intro a ha
  simpa using h3 a ha i (by simp)
 ·rw [List.filter_eq_self]
  intro a ha
  have : a ≠ i := fun e => h2.1 (by rw [← e]; exact ha)
  simpa using this
theorem mem_un {ops : Array Oper} {listed : Array Bool} {i : Nat} : i ∈ un ops listed ↔ i < ops.size ∧ listed.getD i true = false := by
 unfold un
 rw [List.mem_filter, List.mem_range]
 simp only [Bool.not_eq_true']
/-- Where nothing is ready nothing is left. -/
theorem un_nil {mk : Nat → Option (Bool × List Nat)} {lt : List Nat} {ops : Array Oper} {listed : Array Bool} (hdr : drawOK A mk lt ops = true) (hs : listed.size = ops.size) (hr : Region.ready .any ops listed = []) : un ops listed = [] := by
 rw [List.eq_nil_iff_forall_not_mem]
 intro i
 induction i using Nat.strongRecOn with
 | _ i ih =>
  intro hi
  obtain ⟨hlt, hl⟩ := mem_un.1 hi
  have ho : ops[i]? = some ops[i] := Array.getElem?_eq_getElem hlt
  have : i ∈ Region.ready .any ops listed := by
   rw [mem_ready]
   refine ⟨hl, ops[i], ho, fun e he hb => ?_⟩
   have hon := (drawOK_spec hdr ho).1 e (by simpa using he) hb
   have hne := ih e.on hon
   cases hx : listed.getD e.on false with
   | true => rfl
   | false => exact absurd (mem_un.2 ⟨by omega, by rw [getD_tf (by omega)]; exact hx⟩) hne
  rw [hr] at this
  cases this
theorem any_sound (hP : POk P) (hK : CallOK P K) (hKH : KHid K) {mk : Nat → Option (Bool × List Nat)} {lt : List Nat} {bs : Nat} {ops : Array Oper} {n : Nat} (hm : maskOK A mk lt ops = true) (hd : dstOK n ops = true) (hdr : drawOK A mk lt ops = true) {B : Nat → Prop} {Q : Exit → Act → World → Prop} {eF : Env} {HF : Heap} : ∀ (fuel : Nat) {listed : Array Bool} {e : Env} {H : Heap} {f : Env},
  listed.size = ops.size → Closed ops listed → (un ops listed).length ≤ fuel → (∀ i, i ∈ un ops listed → lt.contains i = true → H[bs + lt.idxOf i]? = some (.map .hole)) → opsX P A K (mkM mk lt bs) ops (un ops listed) e H = some (f, HF) → EnvEq f eF →
  ∀ {β : Nat → Nat × Nat} {w : World} {a : Act}, StR B β H w → EnvR B β H w e a.tmps → a.tmps.size = n →
   (∀ β' w' a', StR B β' HF w' → Stp β H w β' HF w' → EnvR B β' HF w' eF a'.tmps → a'.tmps.size = n → a'.defers = a.defers → Q .normal a' w') → wpAny P .any ops Q fuel listed a w := by
 intro fuel
 induction fuel with
 | zero =>
  intro listed e H f hs hc hl hH h hf β w a hst he hn hq
  have hun : un ops listed = [] := List.eq_nil_of_length_eq_zero (Nat.le_zero.1 hl)
  rw [hun] at h
  simp only [opsX, kI, kP] at h
  obtain ⟨rfl, rfl⟩ := h
  refine ⟨?_, hq β w a hst (Stp.refl _ _ _) (fun t => by rw [← hf t]; exact he t) hn rfl⟩
  rw [List.eq_nil_iff_forall_not_mem]
  intro i hi
  obtain ⟨h1, o, ho, _⟩ := mem_ready.1 hi
  have : i ∈ un ops listed := mem_un.2 ⟨(Array.getElem?_eq_some_iff.1 ho).1, h1⟩
  rw [hun] at this
  cases this
 | succ fuel ih =>
  intro listed e H f hs hc hl hH h hf β w a hst he hn hq
  refine ⟨fun hr => ?_, fun i hi => ?_⟩
  ·have hun := un_nil hdr hs hr
   rw [hun] at h
   simp only [opsX, kI, kP] at h
   obtain ⟨rfl, rfl⟩ := h
   exact hq β w a hst (Stp.refl _ _ _) (fun t => by rw [← hf t]; exact he t) hn rfl
  ·obtain ⟨hl1, o, ho, haft⟩ := mem_ready.1 hi
   have hlt : i < ops.size := (Array.getElem?_eq_some_iff.1 ho).1
   have hmem : i ∈ un ops listed := mem_un.2 ⟨hlt, hl1⟩
   obtain ⟨pre, post, hsplit⟩ := List.append_of_mem hmem
   have hnd : (un ops listed).Nodup := List.Pairwise.filter _ List.nodup_range
   have hsorted : (un ops listed).Pairwise (· < ·) := List.Pairwise.filter _ List.pairwise_lt_range
   have hpre : ∀ j ∈ pre, i ≠ j ∧ ∃ oj, ops[j]? = some oj ∧ indep A mk lt ops j i oj o = true := by
    intro j hj
    have hjm : j ∈ un ops listed := by rw [hsplit]; simp [hj]
    obtain ⟨hjl, hjf⟩ := mem_un.1 hjm
    have hji : j < i := by
     rw [hsplit, List.pairwise_append] at hsorted
     exact hsorted.2.2 j hj i (by simp)
    refine ⟨by omega, ops[j], Array.getElem?_eq_getElem hjl, ?_⟩
    rcases (drawOK_spec hdr ho).2 j ops[j] hji (Array.getElem?_eq_getElem hjl) with hb | hin
    ·have := before_listed hc i ho (fun e he hb => haft e (by simpa using he) hb) hb
     rw [getD_tf (by omega)] at hjf
     rw [this] at hjf
     cases hjf
    ·exact hin
   rw [hsplit] at h
   obtain ⟨f1, h1, e1⟩ := bubble hKH hm ho pre hpre (hH i hmem) h
   have hun' : un ops (listed.setIfInBounds i true) = pre ++ post := by rw [un_set hs hlt]; exact nodup_split hnd hsplit
   have hc' : Closed ops (listed.setIfInBounds i true) := by
    intro k ok hk hok e' he' hb
    by_cases hki : i = k
    ·subst hki
     rw [ho] at hok
     cases hok
     exact getD_set_true (haft e' (by simpa using he') hb)
    ·rw [getD_set_ne false hki] at hk
     exact getD_set_true (hc k ok hk hok e' he' hb)
   have hl' : (un ops (listed.setIfInBounds i true)).length ≤ fuel := by
    rw [hun']; rw [hsplit] at hl; simp at hl ⊢; omega
   have hf1 : EnvEq f1 eF := e1.symm.trans hf
   simp only [opsX, ho, kB] at h1
   obtain ⟨b, hb, h1⟩ := h1
   have hw := want_sound hb he
   unfold wpOp
   rw [ho]
   simp only
   rw [hw]
   have hdst : ∀ t, o.dst = some t → t < a.tmps.size := by rw [hn]; exact dstOK_spec hd ho
   cases b with
   | true =>
    simp only [if_true, kB] at h1 ⊢
    obtain ⟨⟨v, H1⟩, hop, h1⟩ := h1
    have step : ∀ {next : Act → World → Prop} {Q : Exit → Act → World → Prop}, (∀ β' w' u, StR B β' H1 w' → Stp β H w β' H1 w' → RepX B β' H1 w' v u → next (a.put o.dst u) w') → o.wp P a w next Q := by
     intro next Q hn'
     cases hmk : mkM mk lt bs i with
     | late id => rw [hmk] at hop; exact late_sound hop hst hn'
     | _ => exact op_sound hP hK (opD_opX hKH (fun id e => by rw [hmk] at e; cases e) (maskOK_ins hm ho) hop) hst he hn'
    refine .inl (step fun β1 w1 u hst1 stp1 hr => ?_)
    rw [← hun'] at h1
    have hH' : ∀ k, k ∈ un ops (listed.setIfInBounds i true) → lt.contains k = true → H1[bs + lt.idxOf k]? = some (.map .hole) := by
     intro k hk hlk
     rw [un_set hs hlt, List.mem_filter] at hk
     have hki : k ≠ i := by simpa using hk.2
     exact (hole_stays hKH (hH k hk.1 hlk) (fun e2 => by obtain ⟨_, e3⟩ := mkM_late.1 e2; exact hki (idx_inj hlk (by omega))) (maskOK_ins hm ho) hop [] rfl).1
    exact ih (by simpa using hs) hc' hl' hH' h1 hf1 hst1 (envR_put (he.mono stp1) hdst hr) (by rw [put_size, hn]) fun β' w' a' g1 g2 g3 g4 g5 => hq β' w' a' g1 (stp1.trans g2) g3 g4 (by rw [g5, put_defers])
   | false =>
    simp only [Bool.false_eq_true, if_false] at h1 ⊢
    rw [← hun'] at h1
    have hH' : ∀ k, k ∈ un ops (listed.setIfInBounds i true) → lt.contains k = true → H[bs + lt.idxOf k]? = some (.map .hole) := by
     intro k hk hlk
     rw [un_set hs hlt, List.mem_filter] at hk
     exact hH k hk.1 hlk
    exact ih (by simpa using hs) hc' hl' hH' h1 hf1 hst (envR_put he hdst ⟨[], rfl, .nil⟩) (by rw [put_size, hn]) fun β' w' a' g1 g2 g3 g4 g5 => hq β' w' a' g1 g2 g3 g4 (by rw [g5, put_defers])
def regionOK (A : Ann) (mk : Nat → Option (Bool × List Nat)) (lt : List Nat) (n : Nat) (ops : Array Oper) (draw : Bool) : Bool := maskOK A mk lt ops && dstOK n ops && (!draw || drawOK A mk lt ops)
/-- A region, whatever its order. -/
theorem region_sound (hP : POk P) (hK : CallOK P K) (hKH : KHid K) {mk : Nat → Option (Bool × List Nat)} {lt : List Nat} {id n : Nat} {ops : Array Oper} {draw : Bool} (hok : regionOK A mk lt n ops draw = true) {B : Nat → Prop} {Q : Exit → Act → World → Prop} {e eF : Env} {H HF : Heap}
  (h : opsX P A K (mkM mk lt H.length) ops (List.range ops.size) e (holesX lt H) = some (eF, HF)) {β : Nat → Nat × Nat} {w : World} {a : Act} (hst : StR B β H w) (he : EnvR B β H w e a.tmps) (hn : a.tmps.size = n)
  (hq : ∀ β' w' a', StR B β' HF w' → Stp β H w β' HF w' → EnvR B β' HF w' eF a'.tmps → a'.tmps.size = n → a'.defers = a.defers → Q .normal a' w') : (Code.region id ops draw).wp P Q a w := by
 unfold regionOK at hok
 simp only [kA, Bool.or_eq_true, Bool.not_eq_true'] at hok
 obtain ⟨⟨hm, hd⟩, hdr⟩ := hok
 have hs0 : Stp β H w β (holesX lt H) w := holes_stp lt
 replace he := he.mono hs0
 have hq : ∀ β' w' a', StR B β' HF w' → Stp β (holesX lt H) w β' HF w' → EnvR B β' HF w' eF a'.tmps → a'.tmps.size = n → a'.defers = a.defers → Q .normal a' w' := fun β' w' a' g1 g2 g3 g4 g5 => hq β' w' a' g1 (hs0.trans g2) g3 g4 g5
 have hH : ∀ i, lt.contains i = true → (holesX lt H)[H.length + lt.idxOf i]? = some (.map .hole) := fun i hi => holes_at hi
 replace hst := holes_str hst lt
 generalize H.length = bs at h hH
 generalize holesX lt H = H at h hst he hq hH
 clear hs0
 cases draw with
 | false => exact wp_region (ops_sound hP hK hKH hm hd _ h hst he hn hq)
 | true =>
  have hdr : drawOK A mk lt ops = true := hdr.resolve_left (by simp)
  refine wp_region_any hP.mixed ?_
  have hu : un ops (Array.replicate ops.size false) = List.range ops.size := by
   unfold un
   rw [List.filter_eq_self]
   intro i hi
   have : i < ops.size := by simpa using hi
   simp [Array.getD_eq_getD_getElem?, this]
  rw [← hu] at h
  refine any_sound hP hK hKH hm hd hdr ops.size (by simp) (fun k o hk => ?_) (by rw [hu]; simp) (fun i _ hi => hH i hi) h (EnvEq.refl _) (hst.same rfl rfl rfl rfl) (EnvR.mono (w := w) (β' := β) (H' := H) (w' := { w with drawn := w.drawn + 1 }) (Stp.same rfl rfl rfl rfl) he) hn fun β' w' a' g1 g2 g3 g4 g5 =>
   hq β' w' a' g1 ((Stp.same rfl rfl rfl rfl : Stp β H w β H { w with drawn := w.drawn + 1 }).trans g2) g3 g4 g5
  rw [Array.getD_eq_getD_getElem?] at hk
  cases hx : (Array.replicate ops.size false)[k]? with
  | none => rw [hx] at hk; simp at hk
  | some b =>
   rw [hx] at hk
   simp only [Array.getElem?_replicate] at hx
   split at hx
   ·cases hx; simp at hk
   ·cases hx
end
end Go.Lg
