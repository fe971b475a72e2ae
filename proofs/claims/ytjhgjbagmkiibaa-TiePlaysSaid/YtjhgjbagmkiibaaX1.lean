/- Lemmas. -/
import Derived.Calls
import GoSem.ClaimData
namespace Go.Lg
abbrev kB := @Option.bind_eq_some_iff
abbrev kI := @Option.some.injEq
abbrev kS := @Option.bind_some
abbrev kM := @Option.map_eq_some_iff
abbrev kR := @Option.ite_none_right_eq_some
abbrev kP := @Prod.mk.injEq
abbrev kT := @Option.map_some
abbrev kA := @Bool.and_eq_true
inductive C where
 | sc (v : Value)
 | sl (b nil capd : Bool) (cells : List C) (n : Nat)
 | row (id st off len : Nat) (capd : Bool)
 | ptr (id off : Nat)
 | rd (cells : List C)
 | ra (id st pos : Nat)
 | mp (id : Nat)
 | it (id : Nat)
 | fn (f : Fn) (first cap : List C)
 | dead
 deriving Inhabited
inductive Y where
 | one (c : C)
 | agg (cs : List C)
 deriving Inhabited
inductive X where
 | y (v : Y)
 | tup (vs : List Y)
 deriving Inhabited
inductive MapV where
 | hole
 /-- a thing that may be read, not written -/
 | fro (cells : List C)
 | map (es : Array MapEntry) (clock : Nat)
 | iter (m : Option Nat) (since : Nat) (seen : Array Nat) (last : Nat)
 /-- a map: what it holds, in whatever order -/
 | bag (es : List (Value × Value))
 deriving Inhabited
def MapV.isMap : MapV → Bool
 | .map _ _ | .bag _ => true
 | _ => false
def MapV.isIter : MapV → Bool
 | .iter _ _ _ _ => true
 | _ => false
inductive O where
 | row (pu mu : Bool) (d st sz : Nat) (cells : List C)
 | obj (cells : List C)
 | map (v : MapV)
 deriving Inhabited
abbrev Heap := List O
abbrev Env := List (Nat × X)
def X.dead : X := .y (.one .dead)
def X.undef : X := .tup []
def get : Env → Nat → X
 | [], _ => .dead
 | (t, v) :: r, u => if t = u then v else get r u
def putD (d : Option Nat) (v : X) (e : Env) : Env :=
 match d with
 | some t => (t, v) :: e
 | none => e
def restrict (l : List Nat) (e : Env) : Env := l.map fun t => (t, get e t)
def plain : Value → Bool
 | .bool _ | .int _ _ | .float _ _ | .complex _ _ _ | .string _ | .pointer none | .map none | .nilFunc | .nilIface => true
 | _ => false
def C.ofV : Value → C
 | .slice a n c => if a.isNone && n == 0 && c == 0 then .sl false true true [] 0 else .dead
 | .func f a b => if a.isEmpty && b.isEmpty then .fn f [] [] else .dead
 | v => if plain v then .sc v else .dead
def Y.ofV : Value → Y
 | .agg cs => .agg (cs.toList.map C.ofV)
 | v => .one (C.ofV v)
def C.toV : C → Option Value
 | .sc v => some v
 | _ => none
def Y.toV : Y → Option Value
 | .one c => c.toV
 | .agg cs => (cs.mapM C.toV).map fun vs => .agg vs.toArray
def X.toV : X → Option Value
 | .y v => v.toV
 | .tup _ => none
def pv {α : Type} (P : Program) : Sem α → Option α
 | .pure a => some a
 | .program k => pv P (k P)
 | _ => none
def ev (e : Env) : Operand → X
 | .tmp t => get e t
 | .const v => .y (Y.ofV v)
 | .global _ => .dead
 | .func f => .y (.one (.fn (.func f) [] []))
def X.c? : X → Option C
 | .y (.one c) => some c
 | _ => none
def X.y? : X → Option Y
 | .y v => some v
 | _ => none
def X.int? : X → Option Int
 | .y (.one (.sc (.int _ n))) => some n
 | _ => none
def Y.cells : Y → List C
 | .one c => [c]
 | .agg cs => cs
def C.live : C → Bool
 | .dead => false
 | _ => true
def C.atom : C → Bool
 | .fn _ _ _ | .dead => false
 | _ => true
def C.imm : C → Bool
 | .sc _ | .sl false _ _ _ _ => true
 | _ => false
def isStrT (P : Program) (t : TypeId) : Bool :=
 match P.underlying t with
 | some .string => true
 | _ => false
def isAggT (P : Program) (t : TypeId) : Bool :=
 match P.underlying t with
 | some (.struct _) | some (.array _ _) => true
 | _ => false
def mkY (agg : Bool) (cs : List C) : Option Y :=
 if agg then some (.agg cs) else match cs with | [c] => some (.one c) | _ => none
def sub {α : Type} (off n : Nat) (cs : List α) : List α := (cs.drop off).take n
def ldCells (H : Heap) (c : C) (n : Nat) : Option (List C) :=
 match c with
 | .ptr id off => match H[id]? with
  | some (.obj cs) => if off + n ≤ cs.length then some (sub off n cs) else none
  | some (.map (.fro cs)) => if off + n ≤ cs.length then some (sub off n cs) else none
  | _ => none
 | .rd cs => if n ≤ cs.length then some (cs.take n) else none
 | .ra id st pos => match H[id]? with
  | some (.row _ _ d st' sz cs) => if st = st' ∧ d * sz ≤ pos ∧ pos - d * sz + n ≤ cs.length then some (sub (pos - d * sz) n cs) else none
  | _ => none
 | _ => none
def splice {α : Type} (off : Nat) (new cs : List α) : List α := cs.take off ++ new ++ cs.drop (off + new.length)
def immC (H : Heap) (c : C) : Option (C × Heap) :=
 match c with
 | .row id st off len capd => match H[id]? with
  | some (.row true _ d st' sz cs) =>
   if st = st' ∧ d ≤ off ∧ off + len ≤ st then some (.sl false false capd (sub ((off - d) * sz) (len * sz) cs) len, H.set id (.row true false d st' sz cs)) else none
  | _ => none
 | c => if c.imm then some (c, H) else none
def immL (H : Heap) : List C → Option (List C × Heap)
 | [] => some ([], H)
 | c :: r => (immC H c).bind fun (c', H1) => (immL H1 r).map fun (r', H2) => (c' :: r', H2)
def stCells (H : Heap) (c : C) (new : List C) : Option Heap :=
 if new.all C.live then
  match c with
  | .ptr id off => match H[id]? with
   | some (.obj cs) => if off + new.length ≤ cs.length then some (H.set id (.obj (splice off new cs))) else none
   | _ => none
  | .ra id st pos => match H[id]? with
   | some (.row false true d st' sz cs) =>
    if st = st' ∧ d * sz ≤ pos ∧ pos - d * sz + new.length ≤ cs.length then some (H.set id (.row false true d st' sz (splice (pos - d * sz) new cs))) else none
   | some (.row true _ _ _ _ _) =>
    (immL H new).bind fun (new, H) => match H[id]? with
     | some (.row true true d st' sz cs) =>
      if st = st' ∧ d * sz ≤ pos ∧ pos - d * sz + new.length ≤ cs.length then some (H.set id (.row true true d st' sz (splice (pos - d * sz) new cs))) else none
     | _ => none
   | _ => none
  | _ => none
 else none
def slCells (H : Heap) (sz : Nat) (c : C) : Option (List C × Nat × Bool) :=
 match c with
 | .sl _ _ _ cs n => if cs.length = n * sz then some (cs, n, true) else none
 | .row id st off len _ => match H[id]? with
  | some (.row pu _ d st' sz' cs) => if st = st' ∧ sz = sz' ∧ d ≤ off ∧ off + len ≤ st then some (sub ((off - d) * sz) (len * sz) cs, len, pu) else none
  | _ => none
 | _ => none
def zeroC (P : Program) (t : TypeId) : Option (List C) :=
 (P.info? t).bind fun i => i.zero.bind fun v => let cs := v.cells.toList.map C.ofV
  if cs.all C.live ∧ cs.length = i.size then some cs else none
def elemT (P : Program) (t : TypeId) : Option TypeId :=
 match P.underlying t with
 | some (.slice e) => some e
 | _ => none
def szT (P : Program) (t : TypeId) : Option Nat := (P.info? t).map (·.size)
def byT (P : Program) (t : TypeId) : Option Nat := (P.info? t).map (·.bytes)
structure Ann where
 /-- slices of this type never hold what leads back into the heap -/
 pureSl : TypeId → Bool
 /-- called with nothing of the caller's heap -/
 pureFn : FuncId → Bool
 /-- what lives behind a region -/
 live : FuncId → Nat → Option (List Nat)
 /-- what lives at a loop's head (by the first region of its body); whether a round's own objects go at its end -/
 loop : FuncId → Nat → Option (List Nat × Bool)
 /-- the functions that may be entered -/
 may : FuncId → Bool
 /-- what a call of it made goes when it returns, if nothing leads there -/
 gc : FuncId → Bool := fun _ => false
 /-- pure slices of this type are built of plain cells alone -/
 dryB : TypeId → Bool := fun _ => false
 /-- of a region's operations: (true, ts) sees those things alone that the temporaries lead to, (false, ts) sees none of them -/
 mask : FuncId → Nat → Nat → Option (Bool × List Nat) := fun _ _ _ => none
 /-- allocations of a region that stand in no order to the rest: their places are laid first, as holes -/
 late : FuncId → Nat → List Nat := fun _ _ => []
 /-- maps of this type are bags -/
 bagT : TypeId → Bool := fun _ => false
 /-- functions that are told by a contract of their own -/
 spec : FuncId → Option (List Y → Heap → Option (List Y × Heap)) := fun _ => none
def maxBytes : Nat := 140737488355328
def rowNew (H : Heap) (pu : Bool) (sz n : Nat) (cs : List C) : C × Heap := (.row H.length n 0 n false, H ++ [.row pu true 0 n sz cs])
def C.isRow : C → Bool
 | .row .. => true
 | _ => false
def appendX (P : Program) (A : Ann) (H : Heap) (t : TypeId) (s x : C) : Option (C × Heap) :=
 (elemT P t).bind fun e => (szT P e).bind fun sz => (byT P e).bind fun by_ => (zeroC P e).bind fun _ =>
 if 0 < sz then
  (slCells H sz x).bind fun (new, m, pure_) => (slCells H sz s).bind fun (old, n, opure) =>
  if m = 0 then some (s, H) else
  if new.all C.live ∧ n + m ≤ maxLen ∧ (n + m) * by_ ≤ maxBytes then
   let pu := if s.isRow then opure else A.pureSl t
   (if pu && !pure_ then immL H new else some (new, H)).bind fun (new, H) =>
   match s with
   | .sl _ _ capd _ _ => if capd then some (rowNew H pu sz (n + m) (old ++ new)) else none
   | .row id st off len capd =>
    if capd then some (rowNew H pu sz (n + m) (old ++ new))
    else match H[id]? with
     | some (.row _ mu d st' _ cs) =>
      if st' = st ∧ off + len = st ∧ mu then some (.row id (st + m) off (len + m) false, H.set id (.row pu true off (st + m) sz (old ++ new)))
      else if st' = st ∧ off + len + m ≤ st ∧ mu then some (.row id st off (len + m) false, H.set id (.row pu true d st sz (splice ((off - d) * sz + len * sz) new cs))) else none
     | _ => none
   | _ => none
  else none
 else none
def copyX (P : Program) (H : Heap) (t : TypeId) (dst src : C) : Option (Nat × Heap) :=
 (elemT P t).bind fun e => (szT P e).bind fun sz =>
 (slCells H sz src).bind fun (cs, m, pure_) =>
 match dst with
 | .row id st off len _ => match H[id]? with
  | some (.row pu true d st' sz' cs') =>
   if st = st' ∧ sz = sz' ∧ d ≤ off ∧ off + len ≤ st ∧ (pu → pure_) ∧ cs.all C.live then
    some (min m len, H.set id (.row pu true d st' sz' (splice ((off - d) * sz) (cs.take (min m len * sz)) cs')))
   else none
  | _ => none
 | .sl _ true _ _ _ => some (0, H)
 | _ => none
def clearX (P : Program) (H : Heap) (t : TypeId) (c : C) : Option Heap :=
 (elemT P t).bind fun e => (szT P e).bind fun sz => (zeroC P e).bind fun z =>
 match c with
 | .row id st off len _ => match H[id]? with
  | some (.row pu true d st' sz' cs) =>
   if st = st' ∧ sz = sz' ∧ d ≤ off ∧ off + len ≤ st ∧ 0 < len ∧ (pu → z.all C.imm) ∧ z.all C.live then
    some (H.set id (.row pu true d st' sz' (splice ((off - d) * sz) ((List.range (len * sz)).map fun i => z.getD (i % sz) .dead) cs)))
   else none
  | _ => none
 | _ => none
def optI (d : Int) : Option X → Option Int
 | some v => v.int?
 | none => some d
def capI (h : Int) (hi dflt : Bool) : Option X → Option Bool
 | some v => v.int?.bind fun m => if m = h ∧ hi then some true else none
 | none => some dflt
def sliceX (P : Program) (H : Heap) (t : TypeId) (x : X) (lo hi mx : Option X) : Option X :=
 match x with
 | .y (.one (.sc (.string s))) =>
  (optI 0 lo).bind fun l => (optI (s.size : Int) hi).bind fun h =>
  if mx.isNone ∧ 0 ≤ l ∧ l ≤ h ∧ h ≤ s.size ∧ isStrT P t then some (.y (.one (.sc (.string (s.extract l.toNat h.toNat))))) else none
 | .y (.one (.sl b nil capd cs n)) =>
  (elemT P t).bind fun e => (szT P e).bind fun sz =>
  (optI 0 lo).bind fun l => (optI (n : Int) hi).bind fun h => (capI h hi.isSome (capd && decide (h = n)) mx).bind fun capd' =>
  if 0 ≤ l ∧ l ≤ h ∧ h ≤ n ∧ cs.length = n * sz then some (.y (.one (.sl b nil capd' (sub (l.toNat * sz) ((h - l).toNat * sz) cs) (h - l).toNat))) else none
 | .y (.one (.row id st off len capd)) => match H[id]? with
  | some (.row _ _ d st' sz' _) =>
   (elemT P t).bind fun e => (szT P e).bind fun sz =>
   (optI 0 lo).bind fun l => (optI (len : Int) hi).bind fun h => (capI h hi.isSome capd mx).bind fun capd' =>
   if 0 ≤ l ∧ l ≤ h ∧ (if capd then h ≤ len else off + h ≤ st) ∧ (mx.isNone → capd → h = len) ∧ st = st' ∧ sz = sz' ∧ d ≤ off then
    some (.y (.one (.row id st (off + l.toNat) (h - l).toNat capd'))) else none
  | _ => none
 | _ => none
def fieldsOf (P : Program) (t : TypeId) (j : Nat) : Option Field :=
 match P.underlying t with
 | some (.struct fs) => fs[j]?
 | _ => none
def addrAdd (c : C) (n : Nat) : Option C :=
 match c with
 | .ptr id off => some (.ptr id (off + n))
 | .rd cs => some (.rd (cs.drop n))
 | .ra id st pos => some (.ra id st (pos + n))
 | _ => none
def indexAddrX (P : Program) (H : Heap) (t : TypeId) (x : C) (i : Int) : Option C :=
 match P.underlying t with
 | some (.array len e) => (szT P e).bind fun sz => if 0 ≤ i ∧ i < len then addrAdd x (i.toNat * sz) else none
 | some (.slice e) => (szT P e).bind fun sz =>
  match x with
  | .sl _ _ _ cs n => if 0 ≤ i ∧ i < n ∧ 0 < sz ∧ cs.length = n * sz then some (.rd (cs.drop (i.toNat * sz))) else none
  | .row id st off len _ => match H[id]? with
   | some (.row _ _ d st' sz' _) => if 0 ≤ i ∧ i < len ∧ st = st' ∧ sz = sz' ∧ d ≤ off ∧ off + len ≤ st then some (.ra id st ((off + i.toNat) * sz)) else none
   | _ => none
  | _ => none
 | _ => none
def nilS : C → Option Bool
 | .sl _ nil _ _ _ => some nil
 | .row _ _ _ _ _ => some false
 | _ => none
def ptrS : C → Option (Option (Nat × Nat))
 | .sc (.pointer none) => some none
 | .ptr i a => some (some (i, a))
 | _ => none
def fnS : C → Option Bool
 | .sc .nilFunc => some true
 | .fn _ _ _ => some false
 | _ => none
def mpS : C → Option Bool
 | .sc (.map none) => some true
 | .mp _ => some false
 | _ => none
def eqX (P : Program) (t : TypeId) (x y : C) : Option Bool :=
 match P.underlying t with
 | some (.slice _) => (nilS x).bind fun a => (nilS y).bind fun b => if a || b then some (a && b) else none
 | some (.pointer e) => (ptrS x).bind fun p => (ptrS y).bind fun q => match p, q with
  | some p, some q => if (szT P e).any (fun n => decide (0 < n)) then some (decide (p = q)) else none
  | p, q => some (p.isNone && q.isNone)
 | some (.func _ _ _) => (fnS x).bind fun a => (fnS y).bind fun b => if a || b then some (a && b) else none
 | some (.map _ _) => (mpS x).bind fun a => (mpS y).bind fun b => if a || b then some (a && b) else none
 | _ => none
def binX (P : Program) (op : BinOp) (t : TypeId) (ox oy : Operand) (x y : X) : Option X :=
 match x.toV, y.toV with
 | some a, some b => (pv P (do eqGuard op t ox oy a b; binOp op t a b)).map fun v => .y (Y.ofV v)
 | _, _ => x.c?.bind fun c => y.c?.bind fun d => (eqX P t c d).bind fun r =>
  match op with
  | .eql => some (.y (.one (.sc (.bool r))))
  | .neq => some (.y (.one (.sc (.bool (!r)))))
  | _ => none
def fillX (place : Nat → Option (Nat × Nat)) (cs : List C) : List (Nat × X) → Option (List C)
 | [] => some cs
 | (i, x) :: r => (place i).bind fun (off, sz) => x.y?.bind fun v =>
  if v.cells.length = sz ∧ off + sz ≤ cs.length ∧ v.cells.all C.live then fillX place (splice off v.cells cs) r else none
def placeX (P : Program) (t : TypeId) (i : Nat) : Option (Nat × Nat) :=
 match P.underlying t with
 | some (.struct fs) => fs[i]?.bind fun f => (szT P f.type).map fun sz => (f.offset, sz)
 | some (.array _ e) | some (.slice e) => (szT P e).map fun sz => (i * sz, sz)
 | _ => none
def snapC (H : Heap) (c : C) : Option C :=
 match c with
 | .sc _ | .sl _ _ _ _ _ => some c
 | .row id st off len capd => match H[id]? with
  | some (.row true _ d st' sz cs) => if st = st' ∧ d ≤ off ∧ off + len ≤ st then some (.sl true false capd (sub ((off - d) * sz) (len * sz) cs) len) else none
  | _ => none
 | _ => none
def snapY (H : Heap) : Y → Option Y
 | .one c => (snapC H c).map .one
 | .agg cs => (cs.mapM (snapC H)).map .agg
def backC (H : Heap) (c : C) : Option C :=
 match c with
 | .sc _ | .sl false _ _ _ _ => some c
 | .row id st off len capd => match H[id]? with
  | some (.row true _ d st' sz cs) => if st = st' ∧ d ≤ off ∧ off + len ≤ st then some (.sl false false capd (sub ((off - d) * sz) (len * sz) cs) len) else none
  | _ => none
 | _ => none
def backY (H : Heap) : Y → Option Y
 | .one c => (backC H c).map .one
 | .agg cs => (cs.mapM (backC H)).map .agg
def isMapT (P : Program) (t : TypeId) : Bool :=
 match P.underlying t with
 | some (.map _ _) => true
 | _ => false
def lookupV (t : TypeId) (es : Array MapEntry) (index : Value) (commaOk : Bool) : Sem Value := do
 let .map key elem ← underlying t | stuck "Lookup: map type expected"
 Instr.checkKey es.isEmpty 10000 key index
 let (v, ok) ← match ← Instr.findKey key index es.toList with
  | some (_, v) => pure (v, true)
  | none => pure (← zeroValue elem, false)
 pure (if commaOk then .tuple #[v, .bool ok] else v)
def updateV (t : TypeId) (es : Array MapEntry) (clock : Nat) (key value : Value) : Sem (Array MapEntry × Nat) := do
 let .map keyType _ ← underlying t | stuck "MapUpdate: map type expected"
 Instr.checkKey false 10000 keyType key
 match ← Instr.findKey keyType key es.toList with
 | some (i, _) => do
  let key ← Instr.keyThatStays (((es[i]?).map (·.key)).getD key) key
  pure (es.modify i fun e => { e with key, val := value }, clock)
 | none => pure (es.push { key, val := value, born := clock }, clock + 1)
def deleteV (t : TypeId) (es : Array MapEntry) (key : Value) : Sem (Array MapEntry) := do
 let .map keyType _ ← underlying t | stuck "delete: map type expected"
 Instr.checkKey es.isEmpty 10000 keyType key
 match ← Instr.findKey keyType key es.toList with
 | some (i, _) => pure (es.eraseIdxIfInBounds i)
 | none => pure es
def bagAt (H : Heap) (id : Nat) : Option (List (Value × Value)) :=
 match H[id]? with
 | some (.map (.bag es)) => some es
 | _ => none
def isStructT (P : Program) (t : TypeId) : Bool :=
 match P.underlying t with
 | some (.struct _) => true
 | _ => false
def keyEq (P : Program) (kt : TypeId) (k k' : Value) : Option Bool :=
 if isStructT P kt then pv P (Op.equal kt k k') else (P.underlying kt).bind fun d => Instr.sameNow d k k'
def keyT (P : Program) (t : TypeId) : Option TypeId :=
 match P.underlying t with
 | some (.map k _) => some k
 | _ => none
def valTy (P : Program) (t : TypeId) : Option TypeId :=
 match P.underlying t with
 | some (.map _ v) => some v
 | _ => none
def seekB (P : Program) (kt : TypeId) (k : Value) (es : List (Value × Value)) : Option (List (Value × Value) × List (Value × Value)) :=
 if (P.underlying kt).isSome && (pv P (Instr.checkKey es.isEmpty 10000 kt k)).isSome && (pv P (Instr.checkKey false 10000 kt k)).isSome && es.all fun e => (keyEq P kt k e.1).isSome then
  let (a, b) := es.partition fun e => (keyEq P kt k e.1) == some true
  if a.length ≤ 1 then some (a, b) else none
 else none
def lookB (P : Program) (t : TypeId) (es : List (Value × Value)) (k : Value) (ok : Bool) : Option Value :=
 (keyT P t).bind fun kt => (valTy P t).bind fun vt => (seekB P kt k es).bind fun (a, _) =>
  ((match a with
   | (_, v) :: _ => some (v, true)
   | [] => (pv P (zeroValue vt)).map fun v => (v, false)).map fun (v, b) => if ok then .tuple #[v, .bool b] else v)
def updB (P : Program) (t : TypeId) (es : List (Value × Value)) (k v : Value) : Option (List (Value × Value)) :=
 (keyT P t).bind fun kt => (seekB P kt k es).bind fun (a, b) =>
  if a.all fun e => Instr.sameBits 10000 e.1 k then some (b ++ [(k, v)]) else none
def delB (P : Program) (t : TypeId) (es : List (Value × Value)) (k : Value) : Option (List (Value × Value)) :=
 (keyT P t).bind fun kt => (seekB P kt k es).map fun (_, b) => b
def mapAt (H : Heap) (id : Nat) : Option (Array MapEntry × Nat) :=
 match H[id]? with
 | some (.map (.map es clock)) => some (es, clock)
 | _ => none
def iterAt (H : Heap) (id : Nat) : Option (Option Nat × Nat × Array Nat × Nat) :=
 match H[id]? with
 | some (.map (.iter m since seen last)) => some (m, since, seen, last)
 | _ => none
def entriesX (H : Heap) (x : X) : Option (Array MapEntry) :=
 match x with
 | .y (.one (.sc (.map none))) => some #[]
 | .y (.one (.mp id)) => (mapAt H id).map (·.1)
 | _ => none
def outX (commaOk : Bool) (v : Value) : Option X :=
 if commaOk then match v with | .tuple vs => some (.tup (vs.toList.map Y.ofV)) | _ => none else some (.y (Y.ofV v))
def bagX (H : Heap) : X → Option (Nat × List (Value × Value))
 | .y (.one (.mp id)) => (bagAt H id).map fun es => (id, es)
 | _ => none
def lookupX (P : Program) (H : Heap) (t : TypeId) (x i : X) (ok : Bool) : Option X :=
 match bagX H x with
 | some (_, es) => i.toV.bind fun k => (lookB P t es k ok).bind (outX ok)
 | none => (entriesX H x).bind fun es => i.toV.bind fun k => (pv P (lookupV t es k ok)).bind (outX ok)
def updateX (P : Program) (H : Heap) (t : TypeId) (x k v : X) : Option Heap :=
 match bagX H x with
 | some (id, es) => k.toV.bind fun k => v.toV.bind fun v => (updB P t es k v).map fun r => H.set id (.map (.bag r))
 | none => match x with
  | .y (.one (.mp id)) => (mapAt H id).bind fun (es, clock) => k.toV.bind fun k => v.toV.bind fun v => (pv P (updateV t es clock k v)).map fun r => H.set id (.map (.map r.1 r.2))
  | _ => none
def entryV (t : TypeId) (es : Array MapEntry) (clock : Nat) (key : Value) : Sem (Array MapEntry × Nat × Value × Value) := do
 let .map keyType elem ← underlying t | stuck "MapEntry: map type expected"
 Instr.checkKey false 10000 keyType key
 match ← Instr.findKey keyType key es.toList with
 | some (i, v) => do
  let key ← Instr.keyThatStays (((es[i]?).map (·.key)).getD key) key
  pure (es.modify i fun e => { e with key }, clock, v, goInt (((es[i]?).map (·.born)).getD 0))
 | none => do
  let zero ← zeroValue elem
  pure (es.push { key, val := zero, born := clock }, clock + 1, zero, goInt clock)
def placeV (t : TypeId) (es : List MapEntry) (key : Value) : Sem (Option Nat) := do
 let .map keyType _ ← underlying t | stuck "map type expected"
 pure ((← Instr.findKey keyType key es).map (·.1))
def mapEntryX (P : Program) (H : Heap) (t : TypeId) (x k : X) : Option (X × Heap) :=
 match x with
 | .y (.one (.mp id)) => (mapAt H id).bind fun (es, clock) => k.toV.bind fun k => (pv P (entryV t es clock k)).bind fun r =>
  if pv P (placeV t r.1.toList k) = some (some (((pv P (placeV t es.toList k)).getD none).getD es.size)) then some (.tup [Y.ofV r.2.2.1, Y.ofV r.2.2.2], H.set id (.map (.map r.1 r.2.1))) else none
 | _ => none
def entryStoreX (H : Heap) (x k v : X) : Option Heap :=
 match x with
 | .y (.one (.mp id)) => (mapAt H id).bind fun (es, clock) => k.int?.bind fun born => v.toV.bind fun v => (es.findIdx? fun e => (e.born : Int) == born).map fun i => H.set id (.map (.map (es.modify i fun e => { e with val := v }) clock))
 | _ => none
def deleteX (P : Program) (H : Heap) (t : TypeId) (x k : X) : Option Heap :=
 match bagX H x with
 | some (id, es) => k.toV.bind fun k => (delB P t es k).map fun r => H.set id (.map (.bag r))
 | none => match x with
  | .y (.one (.mp id)) => (mapAt H id).bind fun (es, clock) => k.toV.bind fun k => (pv P (deleteV t es k)).map fun r => H.set id (.map (.map r clock))
  | _ => none
def rangeX (P : Program) (H : Heap) (t : TypeId) (x : X) : Option (X × Heap) :=
 if isMapT P t then
  match x with
  | .y (.one (.sc (.map none))) => some (.y (.one (.it H.length)), H ++ [.map (.iter none 0 #[] 0)])
  | .y (.one (.mp id)) => (mapAt H id).map fun (_, clock) => (.y (.one (.it H.length)), H ++ [.map (.iter (some id) clock #[] clock)])
  | _ => none
 else none
def nextX (H : Heap) (x : X) : Option (X × Heap) :=
 match x with
 | .y (.one (.it id)) => (iterAt H id).bind fun (m, since, seen, last) =>
  match m with
  | none => some (.tup [.one (.sc (.bool false))], H)
  | some m => (mapAt H m).bind fun (es, clock) =>
   if (!seen.isEmpty && !es.isEmpty && es.all fun e => decide (e.born ≥ last)) = true then none else
   let left := es.filter fun e => !seen.contains e.born
   let old := left.filter fun e => decide (e.born < since)
   let new := left.filter fun e => decide (e.born ≥ since)
   match (if old.isEmpty then [none] else []) ++ (old.toList ++ new.toList).map some with
   | [some e] => some (.tup [.one (.sc (.bool true)), Y.ofV e.key, Y.ofV e.val], H.set id (.map (.iter (some m) since (seen.push e.born) clock)))
   | [none] => some (.tup [.one (.sc (.bool false))], H)
   | _ => none
 | _ => none
def entryX (H : Heap) (x : X) : Option X :=
 match x with
 | .y (.one (.it id)) => (iterAt H id).bind fun (m, _, seen, stepped) => m.bind fun m => seen.back?.bind fun stamp => (mapAt H m).bind fun (es, clock) =>
  if clock = stepped then (es.find? fun e => e.born == stamp).map fun e => .tup [Y.ofV e.key, Y.ofV e.val] else none
 | _ => none
abbrev Callee := FuncId → List Y → Heap → Option (List Y × Heap)
def pack : List Y → X
 | [r] => .y r
 | rs => .tup rs
def callX (A : Ann) (K : Callee) (f : FuncId) (args : List Y) (H : Heap) : Option (X × Heap) :=
 if A.pureFn f then
  (args.mapM (snapY H)).bind fun as => (K f as []).bind fun (rs, H') => (rs.mapM (backY H')).map fun rs => (pack rs, H)
 else (K f args H).map fun (rs, H') => (pack rs, H')
def builtinX (P : Program) (A : Ann) (H : Heap) (b : Builtin) (ts : Array TypeId) (type : TypeId) (consts : Array Bool) (args : List X) : Option (X × Heap) :=
 match b, args with
 | .append, [x, y] => match ts.toList with
  | [t, u] => if (elemT P u).isSome then x.c?.bind fun s => y.c?.bind fun z => (appendX P A H t s z).map fun (c, H) => (.y (.one c), H) else none
  | _ => none
 | .copy, [x, y] => match ts.toList with
  | t :: _ => x.c?.bind fun d => y.c?.bind fun s => (copyX P H t d s).map fun (n, H) => (.y (.one (.sc (goInt n))), H)
  | _ => none
 | .len, [.y (.one (.sl _ _ _ _ n))] => if (ts[0]?.bind (elemT P)).isSome then some (.y (.one (.sc (goInt n))), H) else none
 | .len, [.y (.one (.row id st _ n _))] => match H[id]? with
  | some (.row _ _ _ st' _ _) => if st = st' ∧ (ts[0]?.bind (elemT P)).isSome then some (.y (.one (.sc (goInt n))), H) else none
  | _ => none
 | .len, [.y (.one (.mp id))] => if ts[0]?.any (isMapT P) then match bagAt H id with
  | some es => some (.y (.one (.sc (goInt es.length))), H)
  | none => (mapAt H id).map fun (es, _) => (.y (.one (.sc (goInt es.size))), H) else none
 | .delete, [m, k] => ts[0]?.bind fun t => (deleteX P H t m k).map fun H => (.tup [], H)
 | .clear, [x] => ts[0]?.bind fun t => x.c?.bind fun c => (clearX P H t c).map fun H => (.tup [], H)
 | .len, [.y (.one (.sc (.string s)))] => if ts[0]?.any (isStrT P) then some (.y (.one (.sc (goInt s.size))), H) else none
 | b, args => (args.mapM X.toV).bind fun vs => (pv P (builtin b ts type consts vs.toArray)).bind fun
  | .value v => some (.y (Y.ofV v), H)
  | _ => none
def opX (P : Program) (A : Ann) (K : Callee) (ρ : Operand → X) (H : Heap) (o : Oper) : Option (X × Heap) :=
 match o.op with
 | .move x | .assign x => some (ρ x, H)
 | .pick c a b => match ρ c with
  | .y (.one (.sc (.bool t))) => some (if t then ρ a else ρ b, H)
  | _ => none
 | .alloc t => (zeroC P t).map fun cs => (.y (.one (.ptr H.length 0)), H ++ [.obj cs])
 | .box t x => (ρ x).y?.bind fun v => if v.cells.all C.live ∧ szT P t = some v.cells.length then some (.y (.one (.ptr H.length 0)), H ++ [.obj v.cells]) else none
 | .build t ps => (zeroC P t).bind fun z => if isAggT P t && decide (t < P.types.size) then (fillX (placeX P t) z (ps.toList.map fun p => (p.1, ρ p.2))).map fun cs => (.y (.agg cs), H) else none
 | .buildSlice t n ps => (elemT P t).bind fun el => (szT P el).bind fun sz => (zeroC P el).bind fun z =>
  if 0 < sz ∧ n * sz ≤ 16777216 then
   (fillX (placeX P t) ((List.range (n * sz)).map fun i => z.getD (i % sz) .dead) (ps.toList.map fun p => (p.1, ρ p.2))).bind fun cs =>
    if A.dryB t then (if cs.all C.imm then some (.y (.one (.sl false false true cs n)), H) else none)
    else if A.pureSl t then (immL H cs).map fun (cs, H) => (.y (.one (.sl false false true cs n)), H)
    else some (let (c, H) := rowNew H false sz n cs; (.y (.one c), H))
  else none
 | .load t a => (ρ a).c?.bind fun c => (szT P t).bind fun n => if 0 < n then (ldCells H c n).bind fun cs => (mkY (isAggT P t) cs).map fun v => (.y v, H) else none
 | .store t a x => (ρ a).c?.bind fun c => (ρ x).y?.bind fun v => if szT P t = some v.cells.length then (stCells H c v.cells).map fun H => (.undef, H) else none
 | .nilCheck x => match ρ x with
  | .y (.one (.ptr id off)) => some (.y (.one (.ptr id off)), H)
  | .y (.one (.rd cs)) => some (.y (.one (.rd cs)), H)
  | .y (.one (.ra id st pos)) => some (.y (.one (.ra id st pos)), H)
  | .y (.one (.fn (.func f) a b)) => some (.y (.one (.fn (.func f) a b)), H)
  | .y (.one (.mp id)) => some (.y (.one (.mp id)), H)
  | _ => none
 | .binOp op t x y _ => (binX P op t x y (ρ x) (ρ y)).map fun v => (v, H)
 | .unOp op _ x => (ρ x).toV.bind fun a => (pv P (Op.unary op a)).map fun v => (.y (Y.ofV v), H)
 | .convert s d x => (ρ x).toV.bind fun a => (pv P (convert s d a)).map fun v => (.y (Y.ofV v), H)
 | .makeFunc f first cap =>
  ((first.toList.map ρ).mapM X.c?).bind fun as => ((cap.toList.map ρ).mapM X.c?).bind fun cs =>
   if (as ++ cs).all C.atom then some (.y (.one (.fn f as cs)), H) else none
 | .makeSlice t l c => (elemT P t).bind fun el => (szT P el).bind fun sz => (byT P el).bind fun by_ => (zeroC P el).bind fun z =>
  (ρ l).int?.bind fun l => (ρ c).int?.bind fun cp =>
  if 0 < sz ∧ 0 ≤ l ∧ l ≤ cp ∧ cp ≤ maxLen ∧ by_ * cp ≤ 281474976710656 ∧ (A.pureSl t → z.all C.imm) then
   some (let n := l.toNat; let (c, H) := rowNew H (A.pureSl t) sz n ((List.range (n * sz)).map fun i => z.getD (i % sz) .dead); (.y (.one c), H)) else none
 | .slice t x lo hi mx => (sliceX P H t (ρ x) (lo.map ρ) (hi.map ρ) (mx.map ρ)).map fun v => (v, H)
 | .fieldAddr t x j => (ρ x).c?.bind fun c => (fieldsOf P t j).bind fun f => (szT P f.type).bind fun sz => if 0 < sz then (addrAdd c f.offset).map fun c => (.y (.one c), H) else none
 | .field t x j => match ρ x with
  | .y (.agg cs) => (fieldsOf P t j).bind fun f => (szT P f.type).bind fun sz => if f.offset + sz ≤ cs.length then (mkY (isAggT P f.type) (sub f.offset sz cs)).map fun v => (.y v, H) else none
  | _ => none
 | .indexAddr t x i => (ρ x).c?.bind fun c => (ρ i).int?.bind fun n => (indexAddrX P H t c n).map fun c => (.y (.one c), H)
 | .index t x i => (ρ i).int?.bind fun n =>
  match P.underlying t, ρ x with
  | some (.array len el), .y (.agg cs) => (szT P el).bind fun sz =>
   if 0 ≤ n ∧ n < len ∧ n.toNat * sz + sz ≤ cs.length then (mkY (isAggT P el) (sub (n.toNat * sz) sz cs)).map fun v => (.y v, H) else none
  | some .string, .y (.one (.sc (.string s))) => if 0 ≤ n then (s[n.toNat]?).map fun b => (.y (.one (.sc (.int .u8 b.toNat))), H) else none
  | _, _ => none
 | .extract t j => match ρ t with
  | .tup vs => vs[j]?.map fun v => (.y v, H)
  | _ => none
 | .makeMap t r => if isMapT P t && (r.map ρ).all (fun x => x.int?.isSome) then some (.y (.one (.mp H.length)), H ++ [.map (if A.bagT t then .bag [] else .map #[] 0)]) else none
 | .lookup t x i ok => (lookupX P H t (ρ x) (ρ i) ok).map fun v => (v, H)
 | .mapUpdate t m k x | .insert t m k x => (updateX P H t (ρ m) (ρ k) (ρ x)).map fun H => (.undef, H)
 | .mapEntry t m k => mapEntryX P H t (ρ m) (ρ k)
 | .entryStore _ m k x => (entryStoreX H (ρ m) (ρ k) (ρ x)).map fun H => (.undef, H)
 | .range t x => rangeX P H t (ρ x)
 | .next it isString => if isString then none else nextX H (ρ it)
 | .entry it => (entryX H (ρ it)).map fun v => (v, H)
 | .call c => match c.callee with
  | .builtin b => builtinX P A H b c.argTypes o.type (c.args.map Region.isConst) (c.args.toList.map ρ)
  | .value f => match ρ f with
   | .y (.one (.fn (.func g) first cap)) => ((c.args.toList.map ρ).mapM X.y?).bind fun as => callX A K g (first.map .one ++ as ++ cap.map .one) H
   | _ => none
  | _ => none
 | _ => none
def wantX (ops : Array Oper) (γ : Nat → X) (o : Oper) : Option Bool :=
 match o.guard with
 | none => some true
 | some (j, want) => match ((ops[j]?).bind (·.dst)).map γ with
  | some (.y (.one (.sc (.bool b)))) => some (b == want)
  | some (.tup _) => some false
  | none => some false
  | _ => none
def C.inH (n : Nat) : C → Bool
 | .row id _ _ _ _ | .ptr id _ | .ra id _ _ | .mp id | .it id => id < n
 | .fn _ a b => (a ++ b).all fun | .row id _ _ _ _ | .ptr id _ | .ra id _ _ | .mp id | .it id => id < n | .fn _ _ _ => false | _ => true
 | _ => true
def X.inH (n : Nat) : X → Bool
 | .y v => v.cells.all (C.inH n)
 | .tup vs => vs.all fun v => v.cells.all (C.inH n)
def O.inH (n : Nat) : O → Bool
 | .row true _ _ _ _ _ => true
 | .row false _ _ _ _ cs | .obj cs => cs.all (C.inH n)
 | .map (.iter (some m) _ _ _) => m < n
 | .map (.fro cs) => cs.all (C.inH n)
 | .map _ => true
def mapI (f : Nat → O → O) : Nat → Heap → Heap
 | _, [] => []
 | k, o :: r => f k o :: mapI f (k + 1) r
def C.id? : C → Option Nat
 | .row id _ _ _ _ | .ptr id _ | .ra id _ _ | .mp id | .it id => some id
 | _ => none
def idsOf (e : Env) (ts : List Nat) : List Nat := ts.filterMap fun t => (get e t).c?.bind C.id?
def hole : O := .map .hole
def onlyH (M : List Nat) (H : Heap) : Heap := (List.range (M.foldl Nat.max 0 + 1)).map fun i => if M.contains i then H.getD i hole else hole
def froO : O → O
 | .obj cs => .map (.fro cs)
 | .map (.fro cs) => .map (.fro cs)
 | _ => hole
def hideH (M : List Nat) (H : Heap) : Heap := mapI (fun i o => if M.contains i then froO o else o) 0 H
def backH (M : List Nat) (H H' : Heap) : Heap := mapI (fun i o => if M.contains i then H.getD i o else o) 0 H'
def mayHide (H : Heap) (M : List Nat) : Bool := M.all fun i => match H[i]? with | some o => o.inH H.length | none => false
inductive Msk where
 | no
 | ins (ts : List Nat)
 | out (ts : List Nat)
 | late (id : Nat)
def mkM (m : Nat → Option (Bool × List Nat)) (l : List Nat) (base : Nat) (i : Nat) : Msk :=
 if l.contains i then .late (base + l.idxOf i) else match m i with
  | none => .no
  | some (true, ts) => .ins ts
  | some (false, ts) => .out ts
def holesX (l : List Nat) (H : Heap) : Heap :=
 match l with
 | [] => H
 | l => H ++ l.map fun _ => hole
def fillH (P : Program) (id : Nat) (H : Heap) (o : Oper) : Option (X × Heap) :=
 match o.op with
 | .alloc t => match H[id]? with
  | some (.map .hole) => (zeroC P t).map fun cs => (.y (.one (.ptr id 0)), H.set id (.obj cs))
  | _ => none
 | _ => none
def opD (P : Program) (A : Ann) (K : Callee) (mk : Msk) (e : Env) (H : Heap) (o : Oper) : Option (X × Heap) :=
 match mk with
 | .no => opX P A K (ev e) H o
 | .ins ts => (opX P A K (ev e) (onlyH (idsOf e ts) H) o).map fun r => (r.1, H)
 | .out ts =>
  if mayHide H (idsOf e ts) then
   (opX P A K (ev e) (hideH (idsOf e ts) H) o).map fun r => (r.1, backH (idsOf e ts) H r.2)
  else none
 | .late id => fillH P id H o
def opsX (P : Program) (A : Ann) (K : Callee) (mk : Nat → Msk) (ops : Array Oper) : List Nat → Env → Heap → Option (Env × Heap)
 | [], e, H => some (e, H)
 | i :: r, e, H => match ops[i]? with
  | none => opsX P A K mk ops r e H
  | some o => (wantX ops (get e) o).bind fun b =>
   if b then (opD P A K (mk i) e H o).bind fun (v, H) => opsX P A K mk ops r (putD o.dst v e) H
   else opsX P A K mk ops r (putD o.dst .undef e) H
inductive Ex where
 | normal
 | exit (id : Nat)
 | goto (l : Nat)
 | ret
 deriving DecidableEq, Inhabited
def firstRegion : Code → Option Nat
 | .region id _ _ => some id
 | .seq a b => (firstRegion a).or (firstRegion b)
 | .cond _ a b => (firstRegion a).or (firstRegion b)
 | .block _ c | .loop c | .scope c => firstRegion c
 | _ => none
def truncX (n : Nat) (e : Env) (H : Heap) : Option Heap :=
 if (e.all fun x => x.2.inH n) ∧ (H.take n).all (O.inH n) then some (H.take n) else none
def headX (an : Option (List Nat × Bool)) (e : Env) : Env :=
 match an with
 | some (l, _) => restrict l e
 | none => e
mutual
def codeX (P : Program) (A : Ann) (K : Callee) (f : FuncId) : Nat → Code → Env → Heap → Option (Ex × Env × Heap)
 | 0, _, _, _ => none
 | k + 1, c, e, H =>
  match c with
  | .skip | .label _ => some (.normal, e, H)
  | .region id ops _ => (opsX P A K (mkM (A.mask f id) (A.late f id) H.length) ops (List.range ops.size) e (holesX (A.late f id) H)).map fun (e, H) => (.normal, (match A.live f id with | some l => restrict l e | none => e), H)
  | .seq a b => (codeX P A K f k a e H).bind fun (x, e, H) => match x with
   | .normal => codeX P A K f k b e H
   | x => some (x, e, H)
  | .cond c a b => match ev e c with
   | .y (.one (.sc (.bool t))) => if t then codeX P A K f k a e H else codeX P A K f k b e H
   | _ => none
  | .block id c => (codeX P A K f k c e H).map fun (x, e, H) => (match x with | .exit id' => if id' = id then .normal else .exit id' | x => x, e, H)
  | .loop c =>
   let an := (firstRegion c).bind (A.loop f)
   loopX P A K f k c an H.length (headX an e) H
  | .exit id => some (.exit id, e, H)
  | .goto l => some (.goto l, e, H)
  | .scope c => scopeX P A K f k c c e H
  | .ret => some (.ret, e, H)
  | _ => none
def loopX (P : Program) (A : Ann) (K : Callee) (f : FuncId) : Nat → Code → Option (List Nat × Bool) → Nat → Env → Heap → Option (Ex × Env × Heap)
 | 0, _, _, _, _, _ => none
 | k + 1, c, an, n, e, H =>
  (codeX P A K f k c e H).bind fun (x, e, H) => match x with
   | .normal =>
    (match an with | some (_, true) => truncX n (headX an e) H | _ => some H).bind fun H => loopX P A K f k c an n (headX an e) H
   | x => some (x, e, H)
def scopeX (P : Program) (A : Ann) (K : Callee) (f : FuncId) : Nat → Code → Code → Env → Heap → Option (Ex × Env × Heap)
 | 0, _, _, _, _ => none
 | k + 1, c, r, e, H =>
  (codeX P A K f k r e H).bind fun (x, e, H) => match x with
   | .goto l => match findLabel c l with
    | some rest => scopeX P A K f k c rest e H
    | none => some (.goto l, e, H)
   | x => some (x, e, H)
end
def resX (P : Program) (e : Env) (H : Heap) : ResultVar → Option Y
 | .tmp t => (get e t).y?
 | .cell a t => (get e a).c?.bind fun c => (szT P t).bind fun n => if 0 < n then (ldCells H c n).bind fun cs => mkY (isAggT P t) cs else none
def gcX (g : Bool) (n : Nat) (rs : List Y) (H : Heap) : Heap :=
 if g && ((rs.all fun y => y.cells.all (C.inH n)) && (H.take n).all (O.inH n)) then H.take n else H
def runX (P : Program) (A : Ann) : Nat → FuncId → List Y → Heap → Option (List Y × Heap)
 | 0, _, _, _ => none
 | k + 1, f, args, H =>
  if A.may f then
   (P.funcs[f]?).bind fun fn => fn.body.bind fun c =>
   if args.length ≤ fn.ntmps then
    (codeX P A (runX P A k) f k c (args.zipIdx.map fun p => (p.2, .y p.1)) H).bind fun (x, e, H') =>
     match x with
     | .normal | .ret => (fn.results.toList.mapM (resX P e H')).map fun rs => (rs, gcX (A.gc f) H.length rs H')
     | _ => none
   else none
  else (A.spec f).bind fun sp => sp args H
end Go.Lg
