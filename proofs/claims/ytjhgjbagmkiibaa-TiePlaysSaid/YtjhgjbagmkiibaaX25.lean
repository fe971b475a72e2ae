/- Lemmas. -/
import Derived.Test.YtjhgjbagmkiibaaX1
import Derived.Orders
namespace Go.Lg
def kindO (A : Ann) (o : Oper) : Nat :=
 match o.op with
 | .move _ | .assign _ | .pick _ _ _ | .build _ _ | .nilCheck _ | .binOp _ _ _ _ _ | .unOp _ _ _ | .convert _ _ _ | .makeFunc _ _ _ | .fieldAddr _ _ _ | .field _ _ _ | .index _ _ _ | .extract _ _ => 0
 | .buildSlice t _ _ => if A.dryB t then 0 else 2
 | .load _ _ | .slice _ _ _ _ _ | .indexAddr _ _ _ | .lookup _ _ _ _ => 1
 | .call c => match c.callee with
  | .builtin .append | .builtin .copy | .builtin .delete | .builtin .clear => 2
  | .builtin _ => 1
  | .value (.func g) => if A.pureFn g then 1 else 2
  | _ => 2
 | _ => 2
section
variable {P : Program} {A : Ann} {K : Callee}
theorem parts_congr {ρ ρ' : Operand → X} (ps : Array (Nat × Operand)) (h : ∀ x ∈ ps.toList.map (·.2), ρ x = ρ' x) : (ps.toList.map fun p => (p.1, ρ p.2)) = ps.toList.map fun p => (p.1, ρ' p.2) :=
 List.map_congr_left fun p hp => by rw [h p.2 (List.mem_map.2 ⟨p, hp, rfl⟩)]
theorem opX_congr {ρ ρ' : Operand → X} (o : Oper) (H : Heap) (h : ∀ x ∈ o.op.operands, ρ x = ρ' x) : opX P A K ρ H o = opX P A K ρ' H o := by
 unfold opX
 cases hop : o.op <;> rw [hop] at h <;> simp only [Op.operands] at h
 case build t ps => simp only; rw [parts_congr ps fun x hx => h x (by simpa using hx)]
 case buildSlice t n ps => simp only; rw [parts_congr ps fun x hx => h x (by simpa using hx)]
 case makeFunc f first cap =>
  simp only
  rw [List.map_congr_left (l := first.toList) fun x hx => h x (by simp [Array.mem_toList_iff.1 hx]), List.map_congr_left (l := cap.toList) fun x hx => h x (by simp [Array.mem_toList_iff.1 hx])]
 case slice t x lo hi mx => cases lo <;> cases hi <;> cases mx <;> simp_all
 case makeMap t r => cases r <;> simp_all
 case call c =>
  have hargs : c.args.toList.map ρ = c.args.toList.map ρ' := List.map_congr_left fun x hx => h x (by simp [Call.operands, Array.mem_toList_iff.1 hx])
  simp only [hargs]
  cases hc : c.callee with
  | value f => have hf : ρ f = ρ' f := h f (by simp [Call.operands, hc]); simp only [hf]
  | _ => rfl
 all_goals (first | rfl | (simp_all; done))
def Q0 (F : Heap → Option (X × Heap)) : Prop := ∃ r : Option X, ∀ H, F H = r.map fun v => (v, H)
theorem Q0.some' (v : X) : Q0 fun H => some (v, H) := ⟨some v, fun _ => rfl⟩
theorem Q0.none' : Q0 fun _ => none := ⟨none, fun _ => rfl⟩
theorem Q0.map' {α : Type} (s : Option α) (f : α → X) : Q0 fun H => s.map fun v => (f v, H) := ⟨s.map f, fun H => by cases s <;> rfl⟩
theorem Q0.bind' {α : Type} (s : Option α) {F : α → Heap → Option (X × Heap)} (h : ∀ a, Q0 (F a)) : Q0 fun H => s.bind fun a => F a H := by
 cases s with
 | none => exact Q0.none'
 | some a => exact h a
theorem Q0.ite' (p : Prop) [Decidable p] {F G : Heap → Option (X × Heap)} (h : Q0 F) (h' : Q0 G) : Q0 fun H => if p then F H else G H := by
 by_cases hp : p
 ·simpa only [if_pos hp] using h
 ·simpa only [if_neg hp] using h'
theorem opX_q0 {ρ : Operand → X} {o : Oper} (hk : kindO A o = 0) : Q0 fun H => opX P A K ρ H o := by
 unfold kindO at hk
 unfold opX
 cases hop : o.op <;> rw [hop] at hk <;> simp only at hk ⊢ <;> first | (cases hk; done) | skip
 case call c => exfalso; split at hk <;> first | (cases hk; done) | (split at hk <;> cases hk)
 case buildSlice t n ps =>
  have hd : A.dryB t = true := by
   by_cases h : A.dryB t = true
   ·exact h
   ·rw [if_neg h] at hk; cases hk
  simp only [hd, if_true]
  exact Q0.bind' _ fun el => Q0.bind' _ fun sz => Q0.bind' _ fun z => Q0.ite' _ (Q0.bind' _ fun cs => Q0.ite' _ (Q0.some' _) Q0.none') Q0.none'
 case move x => exact Q0.some' _
 case assign x => exact Q0.some' _
 case pick c x y =>
  cases ρ c with
  | tup _ => exact Q0.none'
  | y v => cases v with
   | agg _ => exact Q0.none'
   | one c => cases c with
    | sc v => cases v <;> first | exact Q0.some' _ | exact Q0.none'
    | _ => exact Q0.none'
 case build t ps => exact Q0.bind' _ fun z => Q0.ite' _ (Q0.map' _ _) Q0.none'
 case nilCheck x =>
  cases ρ x with
  | tup _ => exact Q0.none'
  | y v => cases v with
   | agg _ => exact Q0.none'
   | one c => cases c with
    | fn f a b => cases f <;> first | exact Q0.some' _ | exact Q0.none'
    | ptr _ _ => exact Q0.some' _
    | rd _ => exact Q0.some' _
    | ra _ _ _ => exact Q0.some' _
    | mp _ => exact Q0.some' _
    | _ => exact Q0.none'
 case binOp op t x y u => exact Q0.map' _ _
 case unOp op t x => exact Q0.bind' _ fun a => Q0.map' _ _
 case convert s d x => exact Q0.bind' _ fun a => Q0.map' _ _
 case makeFunc f a b => exact Q0.bind' _ fun as => Q0.bind' _ fun cs => Q0.ite' _ (Q0.some' _) Q0.none'
 case fieldAddr t x j => exact Q0.bind' _ fun c => Q0.bind' _ fun f => Q0.bind' _ fun sz => Q0.ite' _ (Q0.map' _ _) Q0.none'
 case field t x j =>
  cases ρ x with
  | tup _ => exact Q0.none'
  | y v => cases v with
   | one _ => exact Q0.none'
   | agg cs => exact Q0.bind' _ fun f => Q0.bind' _ fun sz => Q0.ite' _ (Q0.map' _ _) Q0.none'
 case index t x i =>
  refine Q0.bind' _ fun n => ?_
  cases P.underlying t with
  | none => exact Q0.none'
  | some d => cases d with
   | array len el =>
    cases ρ x with
    | tup _ => exact Q0.none'
    | y v => cases v with
     | one _ => exact Q0.none'
     | agg cs => exact Q0.bind' _ fun sz => Q0.ite' _ (Q0.map' _ _) Q0.none'
   | string =>
    cases ρ x with
    | tup _ => exact Q0.none'
    | y v => cases v with
     | agg _ => exact Q0.none'
     | one c => cases c with
      | sc v => cases v <;> first | exact Q0.ite' _ (Q0.map' _ _) Q0.none' | exact Q0.none'
      | _ => exact Q0.none'
   | _ => exact Q0.none'
 case extract t j =>
  cases ρ t with
  | tup vs => exact Q0.map' _ _
  | y v => exact Q0.none'
theorem opX_quiet {ρ : Operand → X} {H : Heap} {o : Oper} (hk : kindO A o = 0) {v : X} {H' : Heap} (h : opX P A K ρ H o = some (v, H')) : H' = H ∧ ∀ H2, opX P A K ρ H2 o = some (v, H2) := by
 obtain ⟨r, hr⟩ := opX_q0 (P := P) (A := A) (K := K) (ρ := ρ) hk
 simp only at hr
 rw [hr] at h
 cases r with
 | none => cases h
 | some x =>
  simp only [kT, kI, kP] at h
  obtain ⟨rfl, rfl⟩ := h
  exact ⟨rfl, fun H2 => by rw [hr]; rfl⟩
def Q1 (F : Heap → Option (X × Heap)) : Prop := ∀ H, ∃ r : Option X, F H = r.map fun v => (v, H)
theorem Q1.map' {α : Type} (s : Heap → Option α) (f : α → X) : Q1 fun H => (s H).map fun v => (f v, H) := fun H => ⟨(s H).map f, by simp only; cases s H <;> rfl⟩
theorem Q1.some' (v : X) : Q1 fun H => some (v, H) := fun _ => ⟨some v, rfl⟩
theorem Q1.none' : Q1 fun _ => none := fun _ => ⟨none, rfl⟩
theorem Q1.bind' {α : Type} (s : Heap → Option α) {F : α → Heap → Option (X × Heap)} (h : ∀ a, Q1 (F a)) : Q1 fun H => (s H).bind fun a => F a H := fun H => by
 simp only
 cases s H with
 | none => exact ⟨none, rfl⟩
 | some a => exact h a H
theorem Q1.ite' (p : Heap → Prop) [∀ H, Decidable (p H)] {F G : Heap → Option (X × Heap)} (h : Q1 F) (h' : Q1 G) : Q1 fun H => if p H then F H else G H := fun H => by
 by_cases hp : p H
 ·simpa only [if_pos hp] using h H
 ·simpa only [if_neg hp] using h' H
theorem builtin_q1 {b : Builtin} (hb : b ≠ .append) (hc : b ≠ .copy) (hd : b ≠ .delete) (he : b ≠ .clear) {ts : Array TypeId} {type : TypeId} {cs : Array Bool} {xs : List X} : Q1 fun H => builtinX P A H b ts type cs xs := by
 intro H
 show ∃ r : Option X, builtinX P A H b ts type cs xs = r.map _
 unfold builtinX
 split
 ·exact absurd rfl hb
 ·exact absurd rfl hc
 ·by_cases hp : (ts[0]?.bind (elemT P)).isSome = true
  ·rw [if_pos hp]; exact ⟨some _, rfl⟩
  ·rw [if_neg hp]; exact ⟨none, rfl⟩
 ·split
  ·split
   ·exact ⟨some _, rfl⟩
   ·exact ⟨none, rfl⟩
  ·exact ⟨none, rfl⟩
 ·rename_i id
  by_cases hp : ts[0]?.any (isMapT P) = true
  ·rw [if_pos hp]
   cases bagAt H id with
   | some es => exact ⟨some _, rfl⟩
   | none =>
    cases mapAt H id with
    | none => exact ⟨none, rfl⟩
    | some p => exact ⟨some _, rfl⟩
  ·rw [if_neg hp]; exact ⟨none, rfl⟩
 ·exact absurd rfl hd
 ·exact absurd rfl he
 ·rename_i s
  by_cases hp : ts[0]?.any (isStrT P) = true
  ·rw [if_pos hp]; exact ⟨some _, rfl⟩
  ·rw [if_neg hp]; exact ⟨none, rfl⟩
 ·cases xs.mapM X.toV with
  | none => exact ⟨none, rfl⟩
  | some vs =>
   simp only [kS]
   cases pv P (builtin b ts type cs vs.toArray) with
   | none => exact ⟨none, rfl⟩
   | some n => cases n with
    | value v => exact ⟨some _, rfl⟩
    | _ => exact ⟨none, rfl⟩
theorem opX_q1 {ρ : Operand → X} (hρ : ∀ g, ρ (.func g) = .y (.one (.fn (.func g) [] []))) {o : Oper} (hk : kindO A o = 1) : Q1 fun H => opX P A K ρ H o := by
 unfold kindO at hk
 unfold opX
 cases hop : o.op <;> rw [hop] at hk <;> simp only at hk ⊢ <;> first | (cases hk; done) | skip
 case buildSlice t n ps => exfalso; split at hk <;> cases hk
 case load t x => exact Q1.bind' (fun _ => _) fun c => Q1.bind' (fun _ => _) fun n => Q1.ite' (fun _ => _) (Q1.bind' (fun H => ldCells H c n) fun cs => Q1.map' (fun _ => _) _) Q1.none'
 case slice t x lo hi mx => exact Q1.map' (fun H => sliceX P H t (ρ x) (lo.map ρ) (hi.map ρ) (mx.map ρ)) _
 case indexAddr t x i => exact Q1.bind' (fun _ => _) fun c => Q1.bind' (fun _ => _) fun n => Q1.map' (fun H => indexAddrX P H t c n) _
 case lookup t x i ok =>
  intro H
  exact ⟨lookupX P H t (ρ x) (ρ i) ok, rfl⟩
 case call c =>
  cases hc : c.callee with
  | invoke r m => exact Q1.none'
  | builtin b =>
   rw [hc] at hk
   simp only
   refine builtin_q1 ?_ ?_ ?_ ?_ <;> (rintro rfl; cases hk)
  | value f =>
   rw [hc] at hk
   simp only
   cases f with
   | func g =>
    simp only at hk
    have hg : A.pureFn g = true := by
     by_cases h : A.pureFn g = true
     ·exact h
     ·rw [if_neg h] at hk; cases hk
    intro H
    show ∃ r : Option X, (match ρ (Operand.func g) with
     | .y (.one (.fn (.func g) first cap)) => ((c.args.toList.map ρ).mapM X.y?).bind fun as => callX A K g (first.map .one ++ as ++ cap.map .one) H
     | _ => none) = r.map fun v => (v, H)
    rw [hρ]
    simp only [List.map_nil, List.nil_append, List.append_nil, callX, hg, if_true]
    cases (c.args.toList.map ρ).mapM X.y? with
    | none => exact ⟨none, rfl⟩
    | some as =>
     simp only [kS]
     cases as.mapM (snapY H) with
     | none => exact ⟨none, rfl⟩
     | some bs =>
      simp only [kS]
      cases K g bs [] with
      | none => exact ⟨none, rfl⟩
      | some p =>
       simp only [kS]
       cases p.1.mapM (backY p.2) with
       | none => exact ⟨none, rfl⟩
       | some rs => exact ⟨some _, rfl⟩
   | _ => cases hk
theorem opX_reads {ρ : Operand → X} (hρ : ∀ g, ρ (.func g) = .y (.one (.fn (.func g) [] []))) {H : Heap} {o : Oper} (hk : kindO A o = 1) {v : X} {H' : Heap} (h : opX P A K ρ H o = some (v, H')) : H' = H := by
 obtain ⟨r, hr⟩ := opX_q1 (P := P) (A := A) (K := K) (ρ := ρ) hρ hk H
 have hr : opX P A K ρ H o = r.map fun v => (v, H) := hr
 rw [hr] at h
 cases r with
 | none => cases h
 | some x =>
  simp only [kT, kI, kP] at h
  exact h.2.symm
end
section
variable {P : Program} {A : Ann} {K : Callee}
def RLE (H1 H2 : Heap) : Prop := ∀ (i : Nat) (o : O), H1[i]? = some o → o = hole ∨ H2[i]? = some o ∨ ∃ cs, o = .map (.fro cs) ∧ H2[i]? = some (.obj cs)
section reads
variable {H1 H2 : Heap} (hr : RLE H1 H2)
include hr
theorem RLE.row {id : Nat} {pu mu : Bool} {d st sz : Nat} {cs : List C} (h : H1[id]? = some (.row pu mu d st sz cs)) : H2[id]? = some (.row pu mu d st sz cs) := by
 rcases hr _ _ h with h' | h' | ⟨cs', h', _⟩
 ·cases h'
 ·exact h'
 ·cases h'
theorem RLE.obj {id : Nat} {cs : List C} (h : H1[id]? = some (.obj cs)) : H2[id]? = some (.obj cs) := by
 rcases hr _ _ h with h' | h' | ⟨cs', h', _⟩
 ·cases h'
 ·exact h'
 ·cases h'
theorem RLE.fro {id : Nat} {cs : List C} (h : H1[id]? = some (.map (.fro cs))) : H2[id]? = some (.map (.fro cs)) ∨ H2[id]? = some (.obj cs) := by
 rcases hr _ _ h with h' | h' | ⟨cs', h', h2⟩
 ·cases h'
 ·exact .inl h'
 ·cases h'; exact .inr h2
theorem RLE.map {id : Nat} {v : MapV} (h : H1[id]? = some (.map v)) (hv : v ≠ .hole) (hv2 : ∀ cs, v ≠ .fro cs) : H2[id]? = some (.map v) := by
 rcases hr _ _ h with h' | h' | ⟨cs', h', _⟩
 ·simp only [hole, O.map.injEq] at h'; exact absurd h' hv
 ·exact h'
 ·simp only [O.map.injEq] at h'; exact absurd h' (hv2 cs')
theorem mapAt_rle {id : Nat} {r : Array MapEntry × Nat} (h : mapAt H1 id = some r) : mapAt H2 id = some r := by
 unfold mapAt at h ⊢
 split at h
 ·rename_i hh
  rw [hr.map hh (by simp) (by simp)]; exact h
 ·cases h
theorem bagAt_rle {id : Nat} {r : List (Value × Value)} (h : bagAt H1 id = some r) : bagAt H2 id = some r := by
 unfold bagAt at h ⊢
 split at h
 ·rename_i hh
  rw [hr.map hh (by simp) (by simp)]; exact h
 ·cases h
theorem bagX_rle {x : X} {r : Nat × List (Value × Value)} (h : bagX H1 x = some r) : bagX H2 x = some r := by
 unfold bagX at h ⊢
 split at h
 ·simp only [kM] at h ⊢
  obtain ⟨p, hp, e⟩ := h
  exact ⟨p, bagAt_rle hr hp, e⟩
 ·cases h
omit hr in
theorem bagAt_none {H : Heap} {id : Nat} {p : Array MapEntry × Nat} (h : mapAt H id = some p) : bagAt H id = none := by
 unfold mapAt at h
 split at h
 ·rename_i hh; unfold bagAt; rw [hh]
 ·cases h
omit hr in
theorem bagX_none {H : Heap} {x : X} {es : Array MapEntry} (h : entriesX H x = some es) : bagX H x = none := by
 unfold entriesX at h
 split at h
 ·rfl
 ·simp only [kM] at h
  obtain ⟨p, hp, e⟩ := h
  simp only [bagX, bagAt_none hp, Option.map_none]
 ·cases h
theorem iterAt_rle {id : Nat} {r : Option Nat × Nat × Array Nat × Nat} (h : iterAt H1 id = some r) : iterAt H2 id = some r := by
 unfold iterAt at h ⊢
 split at h
 ·rename_i hh
  rw [hr.map hh (by simp) (by simp)]; exact h
 ·cases h
theorem lookup_rle {t : TypeId} {x i : X} {ok : Bool} {v : X} (h : lookupX P H1 t x i ok = some v) : lookupX P H2 t x i ok = some v := by
 unfold lookupX at h ⊢
 split at h
 ·rename_i hb
  rw [bagX_rle hr hb]
  exact h
 simp only [kB] at h
 obtain ⟨es, hes, h⟩ := h
 have hes2 : entriesX H2 x = some es := by
  unfold entriesX at hes ⊢
  split at hes
  ·exact hes
  ·simp only [kM] at hes ⊢
   obtain ⟨p, hp, e⟩ := hes
   exact ⟨p, mapAt_rle hr hp, e⟩
  ·cases hes
 rw [bagX_none hes2]
 simp only [hes2, kS, kB]
 exact h
theorem ld_rle {c : C} {n : Nat} {cs : List C} (hn : 0 < n) (h : ldCells H1 c n = some cs) : ldCells H2 c n = some cs := by
 unfold ldCells at h ⊢
 split at h
 ·rename_i id off
  split at h
  ·rename_i cs' hc
   rw [hr.obj hc]; exact h
  ·rename_i cs' hc
   rcases hr.fro hc with h' | h' <;> rw [h'] <;> exact h
  ·cases h
 ·exact h
 ·rename_i id st pos
  split at h
  ·rename_i hc
   rw [hr.row hc]; exact h
  ·cases h
 ·cases h
theorem sl_rle {sz : Nat} {c : C} {r : List C × Nat × Bool} (h : slCells H1 sz c = some r) : slCells H2 sz c = some r := by
 unfold slCells at h ⊢
 split at h
 ·exact h
 ·split at h
  ·rename_i hc
   rw [hr.row hc]; exact h
  ·cases h
 ·cases h
theorem slice_rle {t : TypeId} {x : X} {lo hi mx : Option X} {r : X} (h : sliceX P H1 t x lo hi mx = some r) : sliceX P H2 t x lo hi mx = some r := by
 unfold sliceX at h ⊢
 split at h
 ·exact h
 ·exact h
 ·split at h
  ·rename_i hc
   rw [hr.row hc]; exact h
  ·cases h
 ·cases h
theorem indexAddr_rle {t : TypeId} {x : C} {i : Int} {r : C} (h : indexAddrX P H1 t x i = some r) : indexAddrX P H2 t x i = some r := by
 unfold indexAddrX at h ⊢
 split at h
 ·exact h
 ·simp only [kB] at h ⊢
  obtain ⟨sz, hs, h⟩ := h
  refine ⟨sz, hs, ?_⟩
  split at h
  ·exact h
  ·split at h
   ·rename_i hc
    rw [hr.row hc]; exact h
   ·cases h
  ·cases h
 ·cases h
theorem snapC_rle {c c' : C} (h : snapC H1 c = some c') : snapC H2 c = some c' := by
 unfold snapC at h ⊢
 split at h
 ·exact h
 ·exact h
 ·split at h
  ·rename_i hc
   rw [hr.row hc]; exact h
  ·cases h
 ·cases h
omit hr in
theorem mapM_le {α γ : Type} {f g : α → Option γ} (hfg : ∀ a b, f a = some b → g a = some b) : ∀ {l : List α} {r : List γ}, l.mapM f = some r → l.mapM g = some r := by
 intro l
 induction l with
 | nil => intro r h; simpa using h
 | cons a l ih =>
  intro r h
  simp only [List.mapM_cons, Option.bind_eq_bind, kB, Option.pure_def, kI] at h ⊢
  obtain ⟨b, hb, r', hr', e⟩ := h
  exact ⟨b, hfg _ _ hb, r', ih hr', e⟩
theorem snapY_rle {y y' : Y} (h : snapY H1 y = some y') : snapY H2 y = some y' := by
 cases y with
 | one c =>
  simp only [snapY, kM] at h ⊢
  obtain ⟨c', hc, e⟩ := h
  exact ⟨c', snapC_rle hr hc, e⟩
 | agg cs =>
  simp only [snapY, kM] at h ⊢
  obtain ⟨c', hc, e⟩ := h
  exact ⟨c', mapM_le (fun _ _ => snapC_rle hr) hc, e⟩
theorem builtin_rle {b : Builtin} (hb : b ≠ .append) (hc : b ≠ .copy) (hd : b ≠ .delete) (he : b ≠ .clear) {ts : Array TypeId} {type : TypeId} {cs : Array Bool} {xs : List X} {v : X} {H' : Heap} (h : builtinX P A H1 b ts type cs xs = some (v, H')) :
  builtinX P A H2 b ts type cs xs = some (v, H2) := by
 unfold builtinX at h ⊢
 split at h
 ·exact absurd rfl hb
 ·exact absurd rfl hc
 ·split at h
  ·rename_i hp
   rw [if_pos hp]
   simp only [kI, kP] at h ⊢
   exact ⟨h.1, trivial⟩
  ·cases h
 ·split at h
  ·rename_i hrow
   rw [hr.row hrow]
   simp only
   split at h
   ·rename_i hp
    rw [if_pos hp]
    simp only [kI, kP] at h ⊢
    exact ⟨h.1, trivial⟩
   ·cases h
  ·cases h
 ·split at h
  ·rename_i hp
   rw [if_pos hp]
   split at h
   ·rename_i hb
    rw [bagAt_rle hr hb]
    simp only [kI, kP] at h ⊢
    exact ⟨h.1, trivial⟩
   simp only [kM, kP] at h
   obtain ⟨p, h1, h2, _⟩ := h
   have h1 := mapAt_rle hr h1
   rw [bagAt_none h1]
   simp only [h1, kT, h2]
  ·cases h
 ·exact absurd rfl hd
 ·exact absurd rfl he
 ·split at h
  ·rename_i hp
   rw [if_pos hp]
   simp only [kI, kP] at h ⊢
   exact ⟨h.1, trivial⟩
  ·cases h
 ·rename_i h1 h2 h3 h4 h5 h6 h7
  simp only [kB] at h ⊢
  obtain ⟨vs, hvs, nx, hnx, h⟩ := h
  refine ⟨vs, hvs, nx, hnx, ?_⟩
  cases nx with
  | value u =>
   simp only [kI, kP] at h ⊢
   exact ⟨h.1, trivial⟩
  | _ => cases h
theorem callX_pure_rle {g : FuncId} (hg : A.pureFn g = true) {as : List Y} {v : X} {H' : Heap} (h : callX A K g as H1 = some (v, H')) : callX A K g as H2 = some (v, H2) := by
 simp only [callX, hg, if_true, kB, kM] at h ⊢
 obtain ⟨bs, hbs, ⟨rs, H3⟩, hk, rs', hrs, e⟩ := h
 refine ⟨bs, mapM_le (fun _ _ => snapY_rle hr) hbs, (rs, H3), hk, rs', hrs, ?_⟩
 simp only [kP] at e ⊢
 exact ⟨e.1, trivial⟩
theorem opX_read_rle {ρ : Operand → X} (hρ : ∀ g, ρ (.func g) = .y (.one (.fn (.func g) [] []))) {o : Oper} (hk : kindO A o ≤ 1) {v : X} {H' : Heap} (h : opX P A K ρ H1 o = some (v, H')) : opX P A K ρ H2 o = some (v, H2) := by
 by_cases h0 : kindO A o = 0
 ·exact (opX_quiet h0 h).2 H2
 ·have hk : kindO A o = 1 := by omega
  unfold kindO at hk
  unfold opX at h ⊢
  cases hop : o.op <;> rw [hop] at hk h <;> simp only at hk h ⊢ <;> first | (cases hk; done) | skip
  case buildSlice t n ps => exfalso; split at hk <;> cases hk
  case load t x =>
   simp only [kB] at h ⊢
   obtain ⟨c, hc, n, hn, h⟩ := h
   refine ⟨c, hc, n, hn, ?_⟩
   split at h
   ·rename_i h0
    rw [if_pos h0]
    simp only [kB, kM, kP] at h ⊢
    obtain ⟨cs, hcs, v', hv, e, _⟩ := h
    exact ⟨cs, ld_rle hr h0 hcs, v', hv, e, trivial⟩
   ·cases h
  case slice t x lo hi mx =>
   simp only [kM, kP] at h ⊢
   obtain ⟨v', hv, e, _⟩ := h
   exact ⟨v', slice_rle hr hv, e, trivial⟩
  case indexAddr t x i =>
   simp only [kB, kM, kP] at h ⊢
   obtain ⟨c, hc, n, hn, v', hv, e, _⟩ := h
   exact ⟨c, hc, n, hn, v', indexAddr_rle hr hv, e, trivial⟩
  case lookup t x i ok =>
   simp only [kM, kP] at h ⊢
   obtain ⟨v', hv, e, _⟩ := h
   exact ⟨v', lookup_rle hr hv, e, trivial⟩
  case call c =>
   cases hc : c.callee with
   | invoke r m => rw [hc] at h; cases h
   | builtin b =>
    rw [hc] at hk h
    simp only at h ⊢
    refine builtin_rle hr ?_ ?_ ?_ ?_ h <;> (rintro rfl; cases hk)
   | value f =>
    rw [hc] at hk h
    simp only at h ⊢
    cases f with
    | func g =>
     simp only at hk
     have hg : A.pureFn g = true := by
      by_cases h : A.pureFn g = true
      ·exact h
      ·rw [if_neg h] at hk; cases hk
     rw [hρ] at h ⊢
     simp only [List.map_nil, List.nil_append, List.append_nil, kB] at h ⊢
     obtain ⟨as, has, h⟩ := h
     exact ⟨as, has, callX_pure_rle hr hg h⟩
    | _ => cases hk
end reads
structure Hid (R : Nat → Option O) (n0 : Nat) (H1 H2 : Heap) : Prop where
 len : H1.length = H2.length
 le : n0 ≤ H1.length
 hid : ∀ i o, R i = some o → i < n0 ∧ o.inH n0 = true ∧ (∃ o1, (o1 = froO o ∨ o1 = hole) ∧ H1[i]? = some o1) ∧ H2[i]? = some o
 same : ∀ i, R i = none → H1[i]? = H2[i]?
theorem Hid.rle {R : Nat → Option O} {n0 : Nat} {H1 H2 : Heap} (h : Hid R n0 H1 H2) : RLE H1 H2 := by
 intro i o hi
 cases hR : R i with
 | none => exact .inr (.inl (by rw [← h.same i hR]; exact hi))
 | some o' =>
  obtain ⟨_, _, ⟨o1, hc, h1⟩, h2⟩ := h.hid i o' hR
  rw [hi] at h1
  have h1 := Option.some.inj h1
  subst h1
  rcases hc with rfl | hc
  case inr => exact .inl hc
  cases o' with
  | obj cs => exact .inr (.inr ⟨cs, rfl, h2⟩)
  | row _ _ _ _ _ _ => exact .inl rfl
  | map v =>
   cases v with
   | fro cs => exact .inr (.inl h2)
   | _ => exact .inl rfl
def O.fast : O → Bool
 | .map .hole | .map (.fro _) => true
 | _ => false
theorem fro_fast (o : O) : (froO o).fast = true := by
 cases o with
 | map v => cases v <;> rfl
 | _ => rfl
theorem fro_inH {n : Nat} {o : O} (h : o.inH n = true) : (froO o).inH n = true := by
 cases o with
 | map v => cases v <;> first | rfl | exact h
 | obj cs => exact h
 | row _ _ _ _ _ _ => rfl
theorem Hid.free {R : Nat → Option O} {n0 : Nat} {H1 H2 : Heap} (h : Hid R n0 H1 H2) {i : Nat} {o : O} (hi : H1[i]? = some o) (ho : o.fast = false) : R i = none := by
 cases hR : R i with
 | none => rfl
 | some o' =>
  obtain ⟨_, _, ⟨o1, hc, h1⟩, _⟩ := h.hid i o' hR
  rw [hi] at h1
  rw [Option.some.inj h1] at ho
  rcases hc with rfl | rfl
  ·rw [fro_fast] at ho; cases ho
  ·cases ho
theorem Hid.set {R : Nat → Option O} {n0 : Nat} {H1 H2 : Heap} (h : Hid R n0 H1 H2) {i : Nat} (hR : R i = none) (o : O) : Hid R n0 (H1.set i o) (H2.set i o) := by
 refine ⟨by simp [h.len], by simpa using h.le, fun j o' hj => ?_, fun j hj => ?_⟩
 ·have hne : i ≠ j := fun e => by rw [e, hj] at hR; cases hR
  obtain ⟨h1, h2, ⟨o1, hc, h3⟩, h4⟩ := h.hid j o' hj
  exact ⟨h1, h2, ⟨o1, hc, by rw [List.getElem?_set_ne hne]; exact h3⟩, by rw [List.getElem?_set_ne hne]; exact h4⟩
 ·by_cases e : i = j
  ·subst e
   simp only [List.getElem?_set, if_true, h.len]
  ·rw [List.getElem?_set_ne e, List.getElem?_set_ne e]; exact h.same j hj
theorem Hid.app {R : Nat → Option O} {n0 : Nat} {H1 H2 : Heap} (h : Hid R n0 H1 H2) (o : O) : Hid R n0 (H1 ++ [o]) (H2 ++ [o]) := by
 refine ⟨by simp [h.len], by have := h.le; simp; omega, fun j o' hj => ?_, fun j hj => ?_⟩
 ·obtain ⟨h1, h2, ⟨o1, hc, h3⟩, h4⟩ := h.hid j o' hj
  have l1 := h.le
  have l2 := h.len
  exact ⟨h1, h2, ⟨o1, hc, by rw [List.getElem?_append_left (by omega)]; exact h3⟩, by rw [List.getElem?_append_left (by omega)]; exact h4⟩
 ·simp only [List.getElem?_append, h.len]
  split
  ·exact h.same j hj
  ·rfl
def Hids (R : Nat → Option O) (n0 : Nat) {α : Type} (r : α × Heap) (x : Option (α × Heap)) : Prop := ∃ H2', x = some (r.1, H2') ∧ Hid R n0 r.2 H2'
section writes
variable {R : Nat → Option O} {n0 : Nat} {H1 H2 : Heap}
theorem immC_hid (hh : Hid R n0 H1 H2) {c : C} {r : C × Heap} (h : immC H1 c = some r) : Hids R n0 r (immC H2 c) := by
 unfold immC at h ⊢
 split at h
 ·split at h
  ·rename_i hc
   rw [hh.rle.row hc]
   simp only
   split at h
   ·rename_i hp
    rw [if_pos hp]
    simp only [kI] at h
    subst h
    exact ⟨_, rfl, hh.set (hh.free hc rfl) _⟩
   ·cases h
  ·cases h
 ·split at h
  ·rename_i hp
   rw [if_pos hp]
   simp only [kI] at h
   subst h
   exact ⟨_, rfl, hh⟩
  ·cases h
theorem immL_hid : ∀ {l : List C} {H1 H2 : Heap} (_ : Hid R n0 H1 H2) {r : List C × Heap} (_ : immL H1 l = some r), Hids R n0 r (immL H2 l) := by
 intro l
 induction l with
 | nil =>
  intro H1 H2 hh r h
  simp only [immL, kI] at h
  subst h
  exact ⟨H2, rfl, hh⟩
 | cons c l ih =>
  intro H1 H2 hh r h
  simp only [immL, kB, kM] at h
  obtain ⟨⟨c', H3⟩, h1, ⟨l', H4⟩, h2, rfl⟩ := h
  obtain ⟨H3', e1, hh1⟩ := immC_hid hh h1
  obtain ⟨H4', e2, hh2⟩ := ih hh1 h2
  exact ⟨H4', by simp only [immL, e1, kS, e2, kT], hh2⟩
theorem st_hid (hh : Hid R n0 H1 H2) {c : C} {new : List C} {H1' : Heap} (h : stCells H1 c new = some H1') : ∃ H2', stCells H2 c new = some H2' ∧ Hid R n0 H1' H2' := by
 unfold stCells at h ⊢
 split at h
 ·rename_i hl
  rw [if_pos hl]
  split at h
  ·rename_i id off
   split at h
   ·rename_i cs hc
    simp only [hh.rle.obj hc]
    split at h
    ·rename_i hle
     rw [if_pos hle]
     simp only [kI] at h
     subst h
     exact ⟨_, rfl, hh.set (hh.free hc rfl) _⟩
    ·cases h
   ·cases h
  ·rename_i id st pos
   split at h
   ·rename_i hc
    simp only [hh.rle.row hc]
    split at h
    ·rename_i hle
     rw [if_pos hle]
     simp only [kI] at h
     subst h
     exact ⟨_, rfl, hh.set (hh.free hc rfl) _⟩
    ·cases h
   ·rename_i hc
    simp only [hh.rle.row hc]
    simp only [kB] at h ⊢
    obtain ⟨⟨new', H3⟩, h1, h⟩ := h
    obtain ⟨H3', e1, hh1⟩ := immL_hid hh h1
    split at h
    ·rename_i hc'
     split at h
     ·rename_i hle
      simp only [kI] at h
      subst h
      refine ⟨_, ⟨_, e1, ?_⟩, hh1.set (hh1.free hc' rfl) _⟩
      simp only [hh1.rle.row hc']
      rw [if_pos hle]
     ·cases h
    ·cases h
   ·cases h
  ·cases h
 ·cases h
theorem rowNew_hid (hh : Hid R n0 H1 H2) {pu : Bool} {sz n : Nat} {cs : List C} : (rowNew H1 pu sz n cs).1 = (rowNew H2 pu sz n cs).1 ∧ Hid R n0 (rowNew H1 pu sz n cs).2 (rowNew H2 pu sz n cs).2 :=
 ⟨by simp only [rowNew, hh.len], hh.app _⟩
theorem append_hid (hh : Hid R n0 H1 H2) {t : TypeId} {s x : C} {r : C × Heap} (h : appendX P A H1 t s x = some r) : Hids R n0 r (appendX P A H2 t s x) := by
 unfold appendX at h ⊢
 simp only [kB] at h
 obtain ⟨e, he, sz, hsz, by_, hby, z, hz, h⟩ := h
 simp only [he, hsz, hby, hz, kS]
 split at h
 ·rename_i h0
  rw [if_pos h0]
  simp only [kB] at h
  obtain ⟨⟨new, m, pur⟩, h1, ⟨old, n, opur⟩, h2, h⟩ := h
  simp only [sl_rle hh.rle h1, sl_rle hh.rle h2, kS]
  simp only at h
  split at h
  ·rename_i hm
   rw [if_pos hm]
   simp only [kI] at h
   subst h
   exact ⟨H2, rfl, hh⟩
  ·rename_i hm
   rw [if_neg hm]
   split at h
   ·rename_i hb
    rw [if_pos hb]
    generalize (if s.isRow = true then opur else A.pureSl t) = pu at h ⊢
    simp only [kB] at h
    obtain ⟨⟨new', H3⟩, h3, h⟩ := h
    have key : ∃ H3', (if (pu && !pur) = true then immL H2 new else some (new, H2)) = some (new', H3') ∧ Hid R n0 H3 H3' := by
     split at h3
     ·rename_i hq
      rw [if_pos hq]
      exact immL_hid hh h3
     ·rename_i hq
      rw [if_neg hq]
      simp only [kI, kP] at h3
      obtain ⟨rfl, rfl⟩ := h3
      exact ⟨H2, rfl, hh⟩
    obtain ⟨H3', e3, hh3⟩ := key
    simp only [e3, kS]
    simp only at h
    split at h
    ·split at h
     ·rename_i hcap
      simp only [kI] at h
      subst h
      rw [if_pos hcap]
      exact ⟨(rowNew H3' pu sz (n + m) (old ++ new')).2, congrArg some (Prod.ext (rowNew_hid hh3).1.symm rfl), (rowNew_hid hh3).2⟩
     ·cases h
    ·split at h
     ·rename_i hcap
      simp only [kI] at h
      subst h
      rw [if_pos hcap]
      exact ⟨(rowNew H3' pu sz (n + m) (old ++ new')).2, congrArg some (Prod.ext (rowNew_hid hh3).1.symm rfl), (rowNew_hid hh3).2⟩
     ·rename_i hcap
      rw [if_neg hcap]
      split at h
      ·rename_i hc
       simp only [hh3.rle.row hc]
       split at h
       ·rename_i hq
        rw [if_pos hq]
        simp only [kI] at h
        subst h
        exact ⟨_, rfl, hh3.set (hh3.free hc rfl) _⟩
       ·rename_i hq
        rw [if_neg hq]
        split at h
        ·rename_i hq2
         rw [if_pos hq2]
         simp only [kI] at h
         subst h
         exact ⟨_, rfl, hh3.set (hh3.free hc rfl) _⟩
        ·cases h
      ·cases h
    ·cases h
   ·cases h
 ·cases h
theorem clear_hid (hh : Hid R n0 H1 H2) {t : TypeId} {c : C} {H1' : Heap} (h : clearX P H1 t c = some H1') : ∃ H2', clearX P H2 t c = some H2' ∧ Hid R n0 H1' H2' := by
 unfold clearX at h ⊢
 simp only [kB] at h
 obtain ⟨e, he, sz, hsz, z, hz, h⟩ := h
 simp only [he, hsz, hz, kS]
 split at h
 ·split at h
  ·rename_i hc
   simp only [hh.rle.row hc]
   split at h
   ·rename_i hq
    rw [if_pos hq]
    simp only [kI] at h
    subst h
    exact ⟨_, rfl, hh.set (hh.free hc rfl) _⟩
   ·cases h
  ·cases h
 ·cases h
theorem copy_hid (hh : Hid R n0 H1 H2) {t : TypeId} {d s : C} {r : Nat × Heap} (h : copyX P H1 t d s = some r) : Hids R n0 r (copyX P H2 t d s) := by
 unfold copyX at h ⊢
 simp only [kB] at h
 obtain ⟨e, he, sz, hsz, ⟨cs, m, pur⟩, h1, h⟩ := h
 simp only [he, hsz, sl_rle hh.rle h1, kS]
 simp only at h
 split at h
 ·split at h
  ·rename_i hc
   simp only [hh.rle.row hc]
   split at h
   ·rename_i hq
    rw [if_pos hq]
    simp only [kI] at h
    subst h
    exact ⟨_, rfl, hh.set (hh.free hc rfl) _⟩
   ·cases h
  ·cases h
 ·simp only [kI] at h
  subst h
  exact ⟨H2, rfl, hh⟩
 ·cases h
theorem bagX_of {x : X} {id : Nat} {es : List (Value × Value)} (h : bagX H1 x = some (id, es)) : x = .y (.one (.mp id)) ∧ H1[id]? = some (.map (.bag es)) := by
 unfold bagX at h
 split at h
 ·simp only [kM, kP] at h
  obtain ⟨p, hp, rfl, rfl⟩ := h
  unfold bagAt at hp
  split at hp
  ·rename_i hh'; simp only [kI] at hp; subst hp; exact ⟨rfl, hh'⟩
  ·cases hp
 ·cases h
theorem update_hid (hh : Hid R n0 H1 H2) {t : TypeId} {x k y : X} {H1' : Heap} (h : updateX P H1 t x k y = some H1') : ∃ H2', updateX P H2 t x k y = some H2' ∧ Hid R n0 H1' H2' := by
 unfold updateX at h ⊢
 split at h
 ·rename_i id es hb
  simp only [kB, kM] at h
  obtain ⟨kv, hk, yv, hy, r, hu, rfl⟩ := h
  obtain ⟨_, hf⟩ := bagX_of hb
  exact ⟨_, by rw [bagX_rle hh.rle hb]; simp only [hk, hy, hu, kS, kT], hh.set (hh.free hf rfl) _⟩
 rename_i hb0
 clear hb0
 split at h
 ·rename_i id
  simp only [kB, kM] at h
  obtain ⟨p, hm, kv, hk, yv, hy, r, hu, rfl⟩ := h
  have hf : H1[id]? = some (.map (.map p.1 p.2)) := by
   unfold mapAt at hm
   split at hm
   ·rename_i hh'; simp only [kI] at hm; subst hm; exact hh'
   ·cases hm
  exact ⟨_, by simp only [bagX, bagAt_none (mapAt_rle hh.rle hm), mapAt_rle hh.rle hm, hk, hy, hu, kS, kT, Option.map_none], hh.set (hh.free hf rfl) _⟩
 ·cases h
theorem mapAt_of {id : Nat} {p : Array MapEntry × Nat} (hm : mapAt H1 id = some p) : H1[id]? = some (.map (.map p.1 p.2)) := by
 unfold mapAt at hm
 split at hm
 ·rename_i hh'; simp only [kI] at hm; subst hm; exact hh'
 ·cases hm
theorem mapEntry_hid (hh : Hid R n0 H1 H2) {t : TypeId} {x k : X} {r : X × Heap} (h : mapEntryX P H1 t x k = some r) : Hids R n0 r (mapEntryX P H2 t x k) := by
 unfold mapEntryX at h ⊢
 split at h
 ·rename_i id
  simp only [kB, kM] at h
  obtain ⟨p, hm, kv, hk, q, hu, h⟩ := h
  split at h
  ·rename_i hg
   cases h
   exact ⟨_, by simp only [mapAt_rle hh.rle hm, hk, hu, kS, hg, if_true], hh.set (hh.free (mapAt_of hm) rfl) _⟩
  ·cases h
 ·cases h
theorem entryStore_hid (hh : Hid R n0 H1 H2) {x k y : X} {H1' : Heap} (h : entryStoreX H1 x k y = some H1') : ∃ H2', entryStoreX H2 x k y = some H2' ∧ Hid R n0 H1' H2' := by
 unfold entryStoreX at h ⊢
 split at h
 ·rename_i id
  simp only [kB, kM] at h
  obtain ⟨p, hm, kv, hk, yv, hy, i, hi, rfl⟩ := h
  exact ⟨_, by simp only [mapAt_rle hh.rle hm, hk, hy, hi, kS, kT], hh.set (hh.free (mapAt_of hm) rfl) _⟩
 ·cases h
theorem delete_hid (hh : Hid R n0 H1 H2) {t : TypeId} {x k : X} {H1' : Heap} (h : deleteX P H1 t x k = some H1') : ∃ H2', deleteX P H2 t x k = some H2' ∧ Hid R n0 H1' H2' := by
 unfold deleteX at h ⊢
 split at h
 ·rename_i id es hb
  simp only [kB, kM] at h
  obtain ⟨kv, hk, r, hu, rfl⟩ := h
  obtain ⟨_, hf⟩ := bagX_of hb
  exact ⟨_, by rw [bagX_rle hh.rle hb]; simp only [hk, hu, kS, kT], hh.set (hh.free hf rfl) _⟩
 rename_i hb0
 clear hb0
 split at h
 ·rename_i id
  simp only [kB, kM] at h
  obtain ⟨p, hm, kv, hk, r, hu, rfl⟩ := h
  have hf : H1[id]? = some (.map (.map p.1 p.2)) := by
   unfold mapAt at hm
   split at hm
   ·rename_i hh'; simp only [kI] at hm; subst hm; exact hh'
   ·cases hm
  exact ⟨_, by simp only [bagX, bagAt_none (mapAt_rle hh.rle hm), mapAt_rle hh.rle hm, hk, hu, kS, kT, Option.map_none], hh.set (hh.free hf rfl) _⟩
 ·cases h
theorem range_hid (hh : Hid R n0 H1 H2) {t : TypeId} {x : X} {r : X × Heap} (h : rangeX P H1 t x = some r) : Hids R n0 r (rangeX P H2 t x) := by
 unfold rangeX at h ⊢
 split at h
 ·rename_i ht
  rw [if_pos ht]
  split at h
  ·simp only [kI] at h
   subst h
   exact ⟨H2 ++ [.map (.iter none 0 #[] 0)], by simp only [hh.len], hh.app _⟩
  ·simp only [kM] at h
   obtain ⟨p, hp, rfl⟩ := h
   exact ⟨H2 ++ [.map (.iter (some _) p.2 #[] p.2)], by simp only [mapAt_rle hh.rle hp, kT, hh.len], hh.app _⟩
  ·cases h
 ·cases h
theorem next_hid (hh : Hid R n0 H1 H2) {x : X} {r : X × Heap} (h : nextX H1 x = some r) : Hids R n0 r (nextX H2 x) := by
 unfold nextX at h ⊢
 split at h
 ·rename_i id
  simp only [kB] at h
  obtain ⟨⟨m, since, seen, last⟩, hi, h⟩ := h
  have hf : H1[id]? = some (.map (.iter m since seen last)) := by
   unfold iterAt at hi
   split at hi
   ·rename_i hh'; simp only [kI, kP] at hi; obtain ⟨rfl, rfl, rfl, rfl⟩ := hi; exact hh'
   ·cases hi
  simp only [iterAt_rle hh.rle hi, kS]
  simp only at h
  cases m with
  | none =>
   simp only [kI] at h
   subst h
   exact ⟨H2, rfl, hh⟩
  | some m =>
   simp only [kB] at h
   obtain ⟨⟨es, clock⟩, hm, h⟩ := h
   simp only [mapAt_rle hh.rle hm, kS]
   simp only at h
   split at h
   ·cases h
   ·rename_i hc
    rw [if_neg hc]
    split at h
    ·rename_i e hl
     simp only [kI] at h
     subst h
     exact ⟨_, rfl, hh.set (hh.free hf rfl) _⟩
    ·simp only [kI] at h
     subst h
     exact ⟨H2, rfl, hh⟩
    ·cases h
 ·cases h
theorem entry_hid (hh : Hid R n0 H1 H2) {x v : X} (h : entryX H1 x = some v) : entryX H2 x = some v := by
 unfold entryX at h ⊢
 split at h
 ·simp only [kB] at h ⊢
  obtain ⟨p, hi, m, hm, stamp, hs, q, hq, h⟩ := h
  exact ⟨p, iterAt_rle hh.rle hi, m, hm, stamp, hs, q, mapAt_rle hh.rle hq, h⟩
 ·cases h
theorem builtin_hid (hh : Hid R n0 H1 H2) {b : Builtin} {ts : Array TypeId} {type : TypeId} {cs : Array Bool} {xs : List X} {r : X × Heap} (h : builtinX P A H1 b ts type cs xs = some r) : Hids R n0 r (builtinX P A H2 b ts type cs xs) := by
 by_cases hb : b = .append
 ·subst hb
  unfold builtinX at h ⊢
  split at h
  ·split at h
   ·split at h
    ·rename_i hq
     rw [if_pos hq]
     simp only [kB, kM] at h
     obtain ⟨s, hs, z, hz, ⟨c, H3⟩, h3, rfl⟩ := h
     obtain ⟨H3', e3, hh3⟩ := append_hid hh h3
     exact ⟨H3', by simp only [hs, hz, e3, kS, kT], hh3⟩
    ·cases h
   ·cases h
  ·rename_i hx; cases hx
  ·rename_i hx; cases hx
  ·rename_i hx; cases hx
  ·rename_i hx; cases hx
  ·rename_i hx; cases hx
  ·rename_i hx; cases hx
  ·rename_i hx; cases hx
  ·simp only [kB] at h
   obtain ⟨vs, hvs, nx, hnx, h⟩ := h
   cases nx with
   | value u =>
    simp only [kI] at h
    subst h
    exact ⟨H2, by simp only [hvs, hnx, kS], hh⟩
   | _ => cases h
 ·by_cases hc : b = .copy
  ·subst hc
   unfold builtinX at h ⊢
   split at h
   ·rename_i hx; cases hx
   ·split at h
    ·simp only [kB, kM] at h
     obtain ⟨s, hs, z, hz, ⟨c, H3⟩, h3, rfl⟩ := h
     obtain ⟨H3', e3, hh3⟩ := copy_hid hh h3
     exact ⟨H3', by simp only [hs, hz, e3, kS, kT], hh3⟩
    ·cases h
   ·rename_i hx; cases hx
   ·rename_i hx; cases hx
   ·rename_i hx; cases hx
   ·rename_i hx; cases hx
   ·rename_i hx; cases hx
   ·rename_i hx; cases hx
   ·simp only [kB] at h
    obtain ⟨vs, hvs, nx, hnx, h⟩ := h
    cases nx with
    | value u =>
     simp only [kI] at h
     subst h
     exact ⟨H2, by simp only [hvs, hnx, kS], hh⟩
    | _ => cases h
  ·by_cases hd : b = .delete
   ·subst hd
    unfold builtinX at h ⊢
    split at h
    ·rename_i hx; cases hx
    ·rename_i hx; cases hx
    ·rename_i hx; cases hx
    ·rename_i hx; cases hx
    ·rename_i hx; cases hx
    ·simp only [kB, kM] at h
     obtain ⟨t, ht, H3, h3, rfl⟩ := h
     obtain ⟨H3', e3, hh3⟩ := delete_hid hh h3
     exact ⟨H3', by simp only [ht, e3, kS, kT], hh3⟩
    ·rename_i hx; cases hx
    ·rename_i hx; cases hx
    ·simp only [kB] at h
     obtain ⟨vs, hvs, nx, hnx, h⟩ := h
     cases nx with
     | value u =>
      simp only [kI] at h
      subst h
      exact ⟨H2, by simp only [hvs, hnx, kS], hh⟩
     | _ => cases h
   ·by_cases he : b = .clear
    ·subst he
     unfold builtinX at h ⊢
     split at h
     ·rename_i hx; cases hx
     ·rename_i hx; cases hx
     ·rename_i hx; cases hx
     ·rename_i hx; cases hx
     ·rename_i hx; cases hx
     ·rename_i hx; cases hx
     ·simp only [kB, kM] at h
      obtain ⟨t, ht, c, hc', H3, h3, rfl⟩ := h
      obtain ⟨H3', e3, hh3⟩ := clear_hid hh h3
      exact ⟨H3', by simp only [ht, hc', e3, kS, kT], hh3⟩
     ·rename_i hx; cases hx
     ·simp only [kB] at h
      obtain ⟨vs, hvs, nx, hnx, h⟩ := h
      cases nx with
      | value u =>
       simp only [kI] at h
       subst h
       exact ⟨H2, by simp only [hvs, hnx, kS], hh⟩
      | _ => cases h
    obtain ⟨v, H'⟩ := r
    have h2 := builtin_rle hh.rle hb hc hd he h
    have h3 := builtin_rle (H2 := H1) (fun i o h => .inr (.inl h)) hb hc hd he h
    rw [h] at h3
    obtain rfl := (Prod.mk.inj (Option.some.inj h3)).2
    exact ⟨H2, h2, hh⟩
def KHid (K : Callee) : Prop := ∀ f as H1 r, K f as H1 = some r → ∀ R n0 H2, Hid R n0 H1 H2 → Hids R n0 r (K f as H2)
theorem call_hid (hK : KHid K) (hh : Hid R n0 H1 H2) {g : FuncId} {as : List Y} {r : X × Heap} (h : callX A K g as H1 = some r) : Hids R n0 r (callX A K g as H2) := by
 by_cases hg : A.pureFn g = true
 ·obtain ⟨v, H'⟩ := r
  have h2 := callX_pure_rle hh.rle hg h
  have h3 := callX_pure_rle (H2 := H1) (fun i o h => .inr (.inl h)) hg h
  rw [h] at h3
  obtain rfl := (Prod.mk.inj (Option.some.inj h3)).2
  exact ⟨H2, h2, hh⟩
 ·simp only [callX, if_neg hg, kM] at h
  obtain ⟨⟨rs, H3⟩, hk, rfl⟩ := h
  obtain ⟨H3', e3, hh3⟩ := hK _ _ _ _ hk _ _ _ hh
  exact ⟨H3', by simp only [callX, if_neg hg, e3, kT], hh3⟩
theorem opX_hid (hK : KHid K) (hh : Hid R n0 H1 H2) {ρ : Operand → X} (hρ : ∀ g, ρ (.func g) = .y (.one (.fn (.func g) [] []))) {o : Oper} {r : X × Heap} (h : opX P A K ρ H1 o = some r) : Hids R n0 r (opX P A K ρ H2 o) := by
 by_cases h1 : kindO A o ≤ 1
 ·obtain ⟨v, H'⟩ := r
  have h2 := opX_read_rle hh.rle hρ h1 h
  have : H' = H1 := by
   by_cases h0 : kindO A o = 0
   ·exact (opX_quiet h0 h).1
   ·exact opX_reads hρ (by omega) h
  subst this
  exact ⟨H2, h2, hh⟩
 ·unfold kindO at h1
  unfold opX at h ⊢
  cases hop : o.op <;> rw [hop] at h1 h <;> simp only at h1 h ⊢ <;> first | (cases h; done) | (exact absurd (Nat.le_refl _) h1) | (exact absurd (Nat.zero_le _) h1) | skip
  case alloc t =>
   simp only [kM] at h
   obtain ⟨cs, hcs, rfl⟩ := h
   exact ⟨H2 ++ [.obj cs], by simp only [hcs, kT, hh.len], hh.app _⟩
  case box t x =>
   simp only [kB] at h
   obtain ⟨v, hv, h⟩ := h
   simp only [hv, kS]
   split at h
   ·rename_i hq
    rw [if_pos hq]
    simp only [kI] at h
    subst h
    exact ⟨H2 ++ [.obj v.cells], by simp only [hh.len], hh.app _⟩
   ·cases h
  case buildSlice t n ps =>
   simp only [kB] at h
   obtain ⟨el, hel, sz, hsz, z, hz, h⟩ := h
   simp only [hel, hsz, hz, kS]
   split at h
   ·rename_i hq
    rw [if_pos hq]
    simp only [kB] at h
    obtain ⟨cs, hcs, h⟩ := h
    simp only [hcs, kS]
    have hd : ¬ A.dryB t = true := fun hd => h1 (by rw [if_pos hd]; exact Nat.zero_le _)
    rw [if_neg hd] at h ⊢
    split at h
    ·rename_i hp
     rw [if_pos hp]
     simp only [kM] at h
     obtain ⟨⟨cs', H3⟩, h3, rfl⟩ := h
     obtain ⟨H3', e3, hh3⟩ := immL_hid hh h3
     exact ⟨H3', by simp only [e3, kT], hh3⟩
    ·rename_i hp
     rw [if_neg hp]
     simp only [kI] at h
     subst h
     exact ⟨_, congrArg some (Prod.ext (congrArg (fun c => X.y (.one c)) (rowNew_hid hh).1.symm) rfl), (rowNew_hid hh).2⟩
   ·cases h
  case store t a x =>
   simp only [kB] at h
   obtain ⟨c, hc, v, hv, h⟩ := h
   simp only [hc, hv, kS]
   split at h
   ·rename_i hq
    rw [if_pos hq]
    simp only [kM] at h
    obtain ⟨H3, h3, rfl⟩ := h
    obtain ⟨H3', e3, hh3⟩ := st_hid hh h3
    exact ⟨H3', by simp only [e3, kT], hh3⟩
   ·cases h
  case makeMap t r' =>
   split at h
   ·rename_i hq
    rw [if_pos hq]
    simp only [kI] at h
    subst h
    exact ⟨H2 ++ [.map (if A.bagT t then .bag [] else .map #[] 0)], by simp only [hh.len], hh.app _⟩
   ·cases h
  case mapUpdate t a k x =>
   simp only [kM] at h
   obtain ⟨H3, h3, rfl⟩ := h
   obtain ⟨H3', e3, hh3⟩ := update_hid hh h3
   exact ⟨H3', by simp only [e3, kT], hh3⟩
  case insert t a k x =>
   simp only [kM] at h
   obtain ⟨H3, h3, rfl⟩ := h
   obtain ⟨H3', e3, hh3⟩ := update_hid hh h3
   exact ⟨H3', by simp only [e3, kT], hh3⟩
  case mapEntry t a k => exact mapEntry_hid hh h
  case entryStore t a k x =>
   simp only [kM] at h
   obtain ⟨H3, h3, rfl⟩ := h
   obtain ⟨H3', e3, hh3⟩ := entryStore_hid hh h3
   exact ⟨H3', by simp only [e3, kT], hh3⟩
  case range t x => exact range_hid hh h
  case next a isString =>
   cases isString with
   | true => cases h
   | false =>
    simp only [Bool.false_eq_true, if_false] at h ⊢
    exact next_hid hh h
  case entry a =>
   simp only [kM] at h
   obtain ⟨v, hv, rfl⟩ := h
   exact ⟨H2, by simp only [entry_hid hh hv, kT], hh⟩
  case makeSlice t l c =>
   simp only [kB] at h
   obtain ⟨el, hel, sz, hsz, by_, hby, z, hz, n, hn, m, hm, h⟩ := h
   simp only [hel, hsz, hby, hz, hn, hm, kS]
   split at h
   ·rename_i hq
    rw [if_pos hq]
    simp only [kI] at h
    subst h
    exact ⟨_, congrArg some (Prod.ext (congrArg (fun c => X.y (.one c)) (rowNew_hid hh).1.symm) rfl), (rowNew_hid hh).2⟩
   ·cases h
  case call c =>
   cases hc : c.callee with
   | invoke r m => rw [hc] at h; cases h
   | builtin b =>
    rw [hc] at h1 h
    simp only at h ⊢
    exact builtin_hid hh h
   | value f =>
    rw [hc] at h
    simp only at h ⊢
    split at h
    ·rename_i g first cap hg
     simp only [kB] at h
     obtain ⟨as, has, h⟩ := h
     simp only [hg, has, kS]
     exact call_hid hK hh h
    ·cases h
end writes
theorem mapI_len (f : Nat → O → O) : ∀ (H : Heap) (k : Nat), (mapI f k H).length = H.length := by
 intro H
 induction H with
 | nil => intro k; rfl
 | cons o H ih => intro k; simp only [mapI, List.length_cons, ih]
theorem mapI_get (f : Nat → O → O) : ∀ (H : Heap) (k i : Nat), (mapI f k H)[i]? = (H[i]?).map (f (k + i)) := by
 intro H
 induction H with
 | nil => intro k i; simp [mapI]
 | cons o H ih =>
  intro k i
  cases i with
  | zero => simp [mapI]
  | succ i => simp only [mapI, List.getElem?_cons_succ, ih]; rw [show k + 1 + i = k + (i + 1) by omega]
theorem hide_get (M : List Nat) (H : Heap) (i : Nat) : (hideH M H)[i]? = if M.contains i then (H[i]?).map froO else H[i]? := by
 unfold hideH
 rw [mapI_get, Nat.zero_add]
 cases H[i]? with
 | none => simp
 | some o => simp only [kT]; split <;> rfl
theorem back_get (M : List Nat) (H H' : Heap) (i : Nat) : (backH M H H')[i]? = if M.contains i then (H'[i]?).map (fun o => H.getD i o) else H'[i]? := by
 unfold backH
 rw [mapI_get, Nat.zero_add]
 cases H'[i]? with
 | none => simp
 | some o => simp only [kT]; split <;> rfl
theorem only_rle (M : List Nat) (H : Heap) : RLE (onlyH M H) H := by
 intro i o h
 unfold onlyH at h
 rw [List.getElem?_map] at h
 simp only [kM] at h
 obtain ⟨j, hj, rfl⟩ := h
 obtain ⟨hlt, rfl⟩ := List.getElem?_eq_some_iff.1 hj
 simp only [List.getElem_range]
 split
 ·cases hi : H[i]? with
  | none => left; simp [List.getD, hi]
  | some o => right; left; simp [List.getD, hi]
 ·exact .inl rfl
theorem only_congr {M : List Nat} {H H' : Heap} (h : ∀ i ∈ M, H.getD i hole = H'.getD i hole) : onlyH M H = onlyH M H' := by
 unfold onlyH
 apply List.map_congr_left
 intro i _
 split
 ·rename_i hc
  exact h i (by simpa using hc)
 ·rfl
theorem C.inH_mono {n m : Nat} (h : n ≤ m) {c : C} (hc : c.inH n = true) : c.inH m = true := by
 cases c with
 | fn f a b =>
  simp only [C.inH, List.all_eq_true] at hc ⊢
  intro x hx
  have := hc x hx
  split at this <;> simp_all <;> omega
 | _ => simp_all [C.inH] <;> omega
theorem O.inH_mono {n m : Nat} (h : n ≤ m) {o : O} (ho : o.inH n = true) : o.inH m = true := by
 cases o with
 | row pu mu d st sz cs =>
  cases pu with
  | true => rfl
  | false =>
   simp only [O.inH, List.all_eq_true] at ho ⊢
   exact fun c hc => C.inH_mono h (ho c hc)
 | obj cs =>
  simp only [O.inH, List.all_eq_true] at ho ⊢
  exact fun c hc => C.inH_mono h (ho c hc)
 | map v =>
  cases v with
  | iter m since seen last =>
   cases m with
   | none => rfl
   | some m => simp only [O.inH, decide_eq_true_eq] at ho ⊢; omega
  | fro cs =>
   simp only [O.inH, List.all_eq_true] at ho ⊢
   exact fun c hc => C.inH_mono h (ho c hc)
  | _ => rfl
def hidR (M : List Nat) (H : Heap) (i : Nat) : Option O := if M.contains i then H[i]? else none
theorem hide_hid {M : List Nat} {H : Heap} (h : mayHide H M = true) : Hid (hidR M H) H.length (hideH M H) H := by
 refine ⟨mapI_len _ _ _, by unfold hideH; rw [mapI_len]; exact Nat.le_refl _, fun i o hi => ?_, fun i hi => ?_⟩
 ·unfold hidR at hi
  split at hi
  ·rename_i hc
   have := List.all_eq_true.1 h i (by simpa using hc)
   rw [hi] at this
   exact ⟨(List.getElem?_eq_some_iff.1 hi).1, this, ⟨_, .inl rfl, by rw [hide_get, if_pos hc, hi]; rfl⟩, hi⟩
  ·cases hi
 ·unfold hidR at hi
  rw [hide_get]
  split at hi
  ·rename_i hc
   rw [if_pos hc, hi]; rfl
  ·rename_i hc
   rw [if_neg hc]
theorem back_eq {M : List Nat} {H H1' H2' : Heap} (hd : Hid (hidR M H) H.length H1' H2') (hM : mayHide H M = true) : backH M H H1' = H2' := by
 apply List.ext_getElem?
 intro i
 rw [back_get]
 split
 ·rename_i hc
  have := List.all_eq_true.1 hM i (by simpa using hc)
  cases hi : H[i]? with
  | none => rw [hi] at this; cases this
  | some o =>
   obtain ⟨_, _, ⟨o1, _, g1⟩, g2⟩ := hd.hid i o (by unfold hidR; rw [if_pos hc]; exact hi)
   rw [g1, g2]
   simp [List.getD, hi]
 ·rename_i hc
  exact hd.same i (by unfold hidR; rw [if_neg hc])
def isAllocO (o : Oper) : Bool := match o.op with | .alloc _ => true | _ => false
def maskOK (A : Ann) (m : Nat → Option (Bool × List Nat)) (l : List Nat) (ops : Array Oper) : Bool :=
 (List.range ops.size).all fun i => match ops[i]? with
  | some o => if l.contains i then isAllocO o else match m i with
   | some (ins, ts) => (if ins then decide (kindO A o ≤ 1) else decide (2 ≤ kindO A o)) && ops.all fun o' => match o'.dst with | some d => !ts.contains d | none => true
   | none => true
  | none => true
theorem mkM_late {m : Nat → Option (Bool × List Nat)} {l : List Nat} {b i id : Nat} : mkM m l b i = .late id ↔ l.contains i = true ∧ id = b + l.idxOf i := by
 unfold mkM
 split
 ·rename_i h; simp only [Msk.late.injEq, h, true_and]; exact ⟨fun e => e.symm, fun e => e.symm⟩
 ·rename_i h
  constructor
  ·intro e; split at e <;> cases e
  ·intro e; exact absurd e.1 h
theorem mkM_ins {m : Nat → Option (Bool × List Nat)} {l : List Nat} {b i : Nat} {ts : List Nat} (h : mkM m l b i = .ins ts) : l.contains i = false ∧ m i = some (true, ts) := by
 unfold mkM at h
 split at h
 ·cases h
 ·rename_i hl
  refine ⟨by simpa using hl, ?_⟩
  split at h <;> first | (cases h; done) | skip
  rename_i e; cases h; exact e
theorem mkM_out {m : Nat → Option (Bool × List Nat)} {l : List Nat} {b i : Nat} {ts : List Nat} (h : mkM m l b i = .out ts) : l.contains i = false ∧ m i = some (false, ts) := by
 unfold mkM at h
 split at h
 ·cases h
 ·rename_i hl
  refine ⟨by simpa using hl, ?_⟩
  split at h <;> first | (cases h; done) | skip
  rename_i e; cases h; exact e
def Msk.ts : Msk → List Nat
 | .ins ts | .out ts => ts
 | _ => []
theorem maskOK_ins {m : Nat → Option (Bool × List Nat)} {l : List Nat} {ops : Array Oper} (h : maskOK A m l ops = true) {b i : Nat} {o : Oper} (ho : ops[i]? = some o) : ∀ ts, mkM m l b i = .ins ts → kindO A o ≤ 1 := by
 intro ts hm
 obtain ⟨h1, h2⟩ := mkM_ins hm
 have := List.all_eq_true.1 h i (List.mem_range.2 (Array.getElem?_eq_some_iff.1 ho).1)
 simp only [ho, h1, Bool.false_eq_true, if_false, h2, kA, if_true, decide_eq_true_eq] at this
 exact this.1
theorem maskOK_out {m : Nat → Option (Bool × List Nat)} {l : List Nat} {ops : Array Oper} (h : maskOK A m l ops = true) {b i : Nat} {o : Oper} (ho : ops[i]? = some o) : ∀ ts, mkM m l b i = .out ts → 2 ≤ kindO A o := by
 intro ts hm
 obtain ⟨h1, h2⟩ := mkM_out hm
 have := List.all_eq_true.1 h i (List.mem_range.2 (Array.getElem?_eq_some_iff.1 ho).1)
 simp only [ho, h1, Bool.false_eq_true, if_false, h2, kA, decide_eq_true_eq] at this
 exact this.1
theorem maskOK_ts {m : Nat → Option (Bool × List Nat)} {l : List Nat} {ops : Array Oper} (h : maskOK A m l ops = true) {b i : Nat} {o : Oper} (ho : ops[i]? = some o) : ∀ (j : Nat) (o' : Oper) (d : Nat), ops[j]? = some o' → o'.dst = some d → d ∉ (mkM m l b i).ts := by
 intro j o' d hj hd
 have key : ∀ ins ts, l.contains i = false → m i = some (ins, ts) → d ∉ ts := by
  intro ins ts h1 h2
  have := List.all_eq_true.1 h i (List.mem_range.2 (Array.getElem?_eq_some_iff.1 ho).1)
  simp only [ho, h1, Bool.false_eq_true, if_false, h2, kA] at this
  have := this.2
  rw [Array.all_eq_true'] at this
  have := this o' (Array.mem_of_getElem? hj)
  rw [hd] at this
  simpa using this
 cases hm : mkM m l b i with
 | no => simp [Msk.ts]
 | late _ => simp [Msk.ts]
 | ins ts => obtain ⟨h1, h2⟩ := mkM_ins hm; exact key _ ts h1 h2
 | out ts => obtain ⟨h1, h2⟩ := mkM_out hm; exact key _ ts h1 h2
theorem evF (e : Env) : ∀ g, ev e (.func g) = .y (.one (.fn (.func g) [] [])) := fun _ => rfl
theorem opD_opX (hK : KHid K) {mk : Msk} {e : Env} {H : Heap} {o : Oper} (hl : ∀ id, mk ≠ .late id) (hm : ∀ ts, mk = .ins ts → kindO A o ≤ 1) {r : X × Heap} (h : opD P A K mk e H o = some r) : opX P A K (ev e) H o = some r := by
 unfold opD at h
 split at h
 ·exact h
 ·rename_i ts
  simp only [kM] at h
  obtain ⟨⟨v, H'⟩, h1, rfl⟩ := h
  exact opX_read_rle (only_rle _ _) (evF e) (hm ts rfl) h1
 ·rename_i ts
  split at h
  ·rename_i hM
   simp only [kM] at h
   obtain ⟨⟨v, H'⟩, h1, rfl⟩ := h
   obtain ⟨H2', h2, hd⟩ := opX_hid hK (hide_hid hM) (evF e) h1
   rw [h2]
   simp only
   rw [back_eq hd hM]
  ·cases h
 ·rename_i id; exact absurd rfl (hl id)
theorem opD_hid (hK : KHid K) {R : Nat → Option O} {n0 : Nat} {H1 H2 : Heap} (hh : Hid R n0 H1 H2) {mk : Msk} {e : Env} {o : Oper} (hl : ∀ id, mk = .late id → R id = none) (hm : ∀ ts, mk = .ins ts → kindO A o ≤ 1) {r : X × Heap}
  (h : opD P A K mk e H1 o = some r) : Hids R n0 r (opD P A K mk e H2 o) := by
 unfold opD at h ⊢
 split at h
 ·exact opX_hid hK hh (evF e) h
 ·rename_i ts
  simp only [kM] at h
  obtain ⟨⟨v, H'⟩, h1, rfl⟩ := h
  have hr : RLE (onlyH (idsOf e ts) H1) (onlyH (idsOf e ts) H2) := by
   intro i o hi
   unfold onlyH at hi ⊢
   rw [List.getElem?_map] at hi ⊢
   simp only [kM] at hi
   obtain ⟨j, hj, rfl⟩ := hi
   rw [hj]
   simp only [kT]
   split
   ·rename_i hc
    cases hR : R j with
    | none => right; left; simp only [List.getD, hh.same j hR]
    | some o =>
     obtain ⟨_, _, ⟨o1, hc1, g1⟩, g2⟩ := hh.hid j o hR
     simp only [List.getD, g1, g2, Option.getD_some]
     rcases hc1 with rfl | hc1
     case inr => exact .inl hc1
     cases o with
     | obj cs => exact .inr (.inr ⟨cs, rfl, rfl⟩)
     | row _ _ _ _ _ _ => exact .inl rfl
     | map v =>
      cases v with
      | fro cs => exact .inr (.inl rfl)
      | _ => exact .inl rfl
   ·exact .inl rfl
  exact ⟨H2, by simp only [opX_read_rle hr (evF e) (hm ts rfl) h1, kT], hh⟩
 ·rename_i ts
  generalize idsOf e ts = M at h ⊢
  split at h
  ·rename_i hM
   simp only [kM] at h
   obtain ⟨⟨v, H'⟩, h1, rfl⟩ := h
   have hM2 : mayHide H2 M = true := by
    unfold mayHide at hM ⊢
    rw [List.all_eq_true] at hM ⊢
    intro i hi
    have := hM i hi
    cases hR : R i with
    | none => rw [← hh.same i hR, ← hh.len]; exact this
    | some o =>
     obtain ⟨_, g0, _, g2⟩ := hh.hid i o hR
     rw [g2]
     exact O.inH_mono (by rw [← hh.len]; exact hh.le) g0
   rw [if_pos hM2]
   have hd : Hid (fun i => if M.contains i then (R i).map froO else R i) n0 (hideH M H1) (hideH M H2) := by
    refine ⟨by unfold hideH; rw [mapI_len, mapI_len]; exact hh.len, by unfold hideH; rw [mapI_len]; exact hh.le, fun i o hi => ?_, fun i hi => ?_⟩
    ·split at hi
     ·rename_i hc
      simp only [kM] at hi
      obtain ⟨o', hi, rfl⟩ := hi
      obtain ⟨g0, g1, ⟨o1, hc1, g2⟩, g3⟩ := hh.hid i o' hi
      refine ⟨g0, fro_inH g1, ⟨froO o1, ?_, by rw [hide_get, if_pos hc, g2]; rfl⟩, by rw [hide_get, if_pos hc, g3]; rfl⟩
      rcases hc1 with rfl | rfl
      ·exact .inl rfl
      ·exact .inr rfl
     ·rename_i hc
      rw [hide_get, hide_get, if_neg hc, if_neg hc]
      exact hh.hid i o hi
    ·rw [hide_get, hide_get]
     split at hi
     ·rename_i hc
      rw [if_pos hc, if_pos hc]
      cases hR : R i with
      | none => rw [hh.same i hR]
      | some o => rw [hR] at hi; cases hi
     ·rename_i hc
      rw [if_neg hc, if_neg hc]
      exact hh.same i hi
   obtain ⟨H2', h2, hd2⟩ := opX_hid hK hd (evF e) h1
   refine ⟨backH M H2 H2', by rw [h2]; rfl, ?_⟩
   have l1 : H'.length = H2'.length := hd2.len
   refine ⟨by simp only [backH, mapI_len]; exact l1, by simp only [backH, mapI_len]; exact hd2.le, fun i o hi => ?_, fun i hi => ?_⟩
   ·obtain ⟨g0, g1, ⟨o1, hc1, g2⟩, g3⟩ := hh.hid i o hi
    refine ⟨g0, g1, ?_⟩
    simp only
    rw [back_get, back_get]
    by_cases hc : M.contains i = true
    ·rw [if_pos hc, if_pos hc]
     have l0 := hd2.le
     simp only at l0
     rw [List.getElem?_eq_getElem (show i < H'.length by omega), List.getElem?_eq_getElem (show i < H2'.length by omega)]
     exact ⟨⟨o1, hc1, by simp [List.getD, g2]⟩, by simp [List.getD, g3]⟩
    ·rw [if_neg hc, if_neg hc]
     obtain ⟨_, _, g4, g5⟩ := hd2.hid i o (by simp only [if_neg hc]; exact hi)
     exact ⟨g4, g5⟩
   ·simp only
    rw [back_get, back_get]
    by_cases hc : M.contains i = true
    ·rw [if_pos hc, if_pos hc]
     have e2 := hh.same i hi
     have e3 := hd2.same i (by simp only [if_pos hc, hi, Option.map_none])
     simp only at e3
     rw [e3]
     congr 1
     funext o
     simp only [List.getD, e2]
    ·rw [if_neg hc, if_neg hc]
     exact hd2.same i (by simp only [if_neg hc]; exact hi)
  ·cases h
 ·rename_i id
  have hR := hl id rfl
  unfold fillH at h ⊢
  split at h
  ·split at h
   ·rename_i hg
    simp only [kM] at h
    obtain ⟨cs, hz, rfl⟩ := h
    rw [← hh.same id hR, hg, hz]
    exact ⟨_, rfl, hh.set hR _⟩
   ·cases h
  ·cases h
end
end Go.Lg
