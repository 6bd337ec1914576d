/-
  The executor's definitions, more: regions whose order is open, runs of closed calls ('exec'), runs along one way with answers given ('drive'). Nothing is proved here.
-/
import Derived.Test.YtiphaojaolcidaaDoorAm1
namespace Go.Am

structure Call' where
  g : FuncId
  args : List AV
  m : Mem
  v : AV
  m' : Mem

def same (b b' : Bool) : Bool := match b' with
  | true => b
  | false => !b

/-- What an operation of a region whose order is open made: its value, what it wrote, which blocks it looked at or wrote. -/
structure Did where
  v : AV
  us : Upd
  fp : List Nat
  ld : Nat → Blk → Bool

/-- Would a load tell the same value, if this stood in that block? -/
def ldOf (P : Program) (ρ : Operand → AV) (o : Oper) (v : AV) (b : Nat) (x : Blk) : Bool :=
  match o.op with
  | .load t a => match ρ a with
    | .mp c off => Nat.beq c b && (match loadOp P (fun _ => x) t (.mp c off) with
      | some (v', ok) => ok && eqAV v' v
      | none => false)
    | _ => false
  | _ => false

/-- What a block holds behind some writes. -/
def lastU : Upd → Nat → Option Blk
  | [], _ => none
  | (i, x) :: r, b => match lastU r b with
    | some y => some y
    | none => cond (Nat.beq i b) (some x) none

def nilU : Upd → Bool
  | [] => true
  | _ => false

def ledOp (o : Oper) : Bool := quietOp o || match o.op with
  | .alloc _ | .box .. | .buildSlice .. | .makeSlice .. | .store .. | .makeMap .. | .lookup .. | .mapUpdate .. | .insert .. => true
  | .call c => match c.callee with
    | .builtin .append | .builtin .copy | .builtin .unsafeSliceData | .builtin .unsafeString => true
    | _ => false
  | _ => false

/-- The blocks that an operation may look at. -/
def sees (ρ : Operand → AV) (o : Oper) : List Nat :=
  match o.op with
  | .load _ a => refs (ρ a)
  | .store _ a _ => refs (ρ a)
  | .convert _ _ x => refs (ρ x)
  | .lookup _ x _ _ => refs (ρ x)
  | .mapUpdate _ x _ _ => refs (ρ x)
  | .insert _ x _ _ => refs (ρ x)
  | .call c => match c.callee with
    | .builtin .append | .builtin .copy | .builtin .unsafeString => refsL (c.args.toList.map ρ)
    | _ => []
  | _ => []

def frees (n : Nat) : Mem := List.replicate n .free

/-- A call in such a region: its new blocks come to places that are kept for them. -/
def didCall (N nx : Nat) (ord : List Nat) (v : AV) (m1 : Mem) : Did :=
  let ord2 := ord ++ List.range' nx (m1.length - ord.length)
  ⟨ren (backIdx ord2 N) v, ord2.zip (m1.map (renB (backIdx ord2 N))), ord2, fun _ _ => false⟩

def ledOne0 (P : Program) (E : Env) (f _rid : Nat) (O : FuncId → List AV → Mem → Option (AV × Mem)) (nx : Nat) (o : Oper) (st : St) : Option (Did × Nat × Bool) :=
  match target (ev E st.tm) o with
  | some (g, args) =>
    let ord := close st.mem 0 args
    match O g (renL (idx ord) args) (pack st.mem ord) with
    | some (v, m1) => some (didCall st.mem.length nx ord v m1, nx + (m1.length - ord.length), Nat.ble ord.length m1.length && (allLt ord nx && Nat.ble (nx + (m1.length - ord.length)) st.mem.length))
    | none => none
  | none => match op1 P (fun i => st.mem.getD i .dead) (E.wr f (o.dst.getD 0)) nx (ev E st.tm) o with
    | some (v, us, ok) => some (⟨v, us, us.map (·.1) ++ (sees (ev E st.tm) o ++ cond (makes o) [nx] []), ldOf P (ev E st.tm) o v⟩, cond (makes o) (nx + 1) nx,
        ok && (ledOp o && (allLt (us.map (·.1)) (cond (makes o) (nx + 1) nx) && Nat.ble (cond (makes o) (nx + 1) nx) st.mem.length)))
    | none => none

/-- A value that is told another way. -/
def tellV (t : Option AV) (r : Option (Did × Nat × Bool)) : Option (Did × Nat × Bool) :=
  match t with
  | none => r
  | some v => match r with
    | some (d, nx, ok) => some (⟨v, d.us, d.fp, d.ld⟩, nx, ok && eqAV d.v v)
    | none => none

def ledOne (P : Program) (E : Env) (f rid : Nat) (O : FuncId → List AV → Mem → Option (AV × Mem)) (nx : Nat) (o : Oper) (st : St) : Option (Did × Nat × Bool) :=
  tellV (E.told f (o.dst.getD 0)) (ledOne0 P E f rid O nx o st)

def ledGo (P : Program) (E : Env) (f rid : Nat) (O : FuncId → List AV → Mem → Option (AV × Mem)) (ops : Array Oper) : List Oper → Nat → St → Option (St × Nat × List Did × Bool)
  | [], nx, st => some (st, nx, [], true)
  | o :: r, nx, st =>
    let skip := match ledGo P E f rid O ops r nx (put st o.dst (.tup [])) with
      | some (st', nx', ds, ok) => some (st', nx', ⟨.tup [], [], [], fun _ _ => false⟩ :: ds, fits st o.dst && ok)
      | none => none
    let doIt := match ledOne P E f rid O nx o st with
      | some (d, nx1, ok) => match ledGo P E f rid O ops r nx1 (put { st with mem := apply st.mem d.us } o.dst d.v) with
        | some (st', nx', ds, ok') => some (st', nx', d :: ds, ok && (fits st o.dst && ok'))
        | none => none
      | none => none
    match wants ops st.tm o with
    | .yes => doIt
    | .no => skip
    | .ask _ b want => match b == want with
      | true => doIt
      | false => skip
    | .lost => none

/-- A load that stands ahead, of which the other one writes other cells. -/
def ledLoad (d e : Did) : Bool := nilU e.us && (d.us.map (·.1)).all fun b => !has e.fp b || (match lastU d.us b with
  | some x => e.ld b x
  | none => false)

def ledPair (L : List Nat) (i : Nat) (d : Did) (j : Nat) (e : Did) : Bool := Nat.testBit (L.getD i 0) j || (!meet (e.us.map (·.1)) d.fp && (!meet (d.us.map (·.1)) e.fp || ledLoad d e))

def ledPairs (L : List Nat) (i : Nat) (d : Did) : Nat → List Did → Bool
  | _, [] => true
  | j, e :: r => ledPair L i d j e && ledPairs L i d (j + 1) r

def ledsOk (L : List Nat) : Nat → List Did → List Did → Bool
  | _, _, [] => true
  | i, bef, d :: r => ledPairs L i d 0 bef && ledsOk L (i + 1) (bef ++ [d]) r

def allFree : Mem → Bool
  | [] => true
  | .free :: r => allFree r
  | _ :: _ => false

/-- A region whose order is open, done in the order of the text: what each operation made is the same in any order. -/
def ledRun (P : Program) (E : Env) (f rid : Nat) (O : FuncId → List AV → Mem → Option (AV × Mem)) (ops : Array Oper) (st : St) : Option (St × Bool) :=
  match ledGo P E f rid O ops (ops.toList.take (openOps ops)) st.mem.length { st with mem := st.mem ++ frees (60 + ops.size) } with
  | some (st', nx, ds, ok) => some ({ st' with mem := st'.mem.take nx }, ok && (ordersOk (fun _ => true) ops (masks [] ops.toList) 0 [] ops.toList && (ledsOk (masks [] ops.toList) 0 [] ds &&
      (allFree (st'.mem.drop nx) && (Nat.ble st.mem.length nx && (P.follows .mixedOrders || !Region.departs ops))))))
  | none => none

def init (P : Program) (g : FuncId) (args : List AV) (m : Mem) : Option Cfg :=
  match P.funcs[g]? with
  | some fn => match fn.body with
    | some c => some { f := g, todo := [.code 0 c], st := { tm := (upTo args.length).zip args, nt := max fn.ntmps args.length, mem := m, fix := m.length } }
    | none => none
  | none => none

/-- Slots with some values put in. -/
def putAll (tm : Tms) : List Nat → List AV → Tms
  | d :: ds, v :: vs => putAll ((d, v) :: tm) ds vs
  | _, _ => tm

/-- A round's start: asked for by 'yield' and these values. -/
def initR (args : List AV) (m : Mem) : Option Cfg :=
  match args with
  | .vy i :: xs => match m.getD i .dead with
    | .ob (.loop f ps as bd _ _) vals => cond (Nat.beq xs.length ps.toList.length && allLt ps.toList vals.length)
      (some { f := f, todo := [.code 0 as, .begin, .code 0 bd], st := { tm := putAll ((upTo vals.length).zip vals) ps.toList xs, nt := vals.length, mem := m, fix := m.length, rnd := .round i } }) none
    | _ => none
  | _ => none

/-! Calls that are known. -/

def knownAt : List Call' → FuncId → List AV → Mem → Option (AV × Mem)
  | [], _, _, _ => none
  | q :: r, g, args, m => cond (Nat.beq q.g g && (eqAVs args q.args && eqMem m q.m)) (some (q.v, q.m')) (knownAt r g args m)

def eqOut : Out → Out → Bool
  | .ret v m, .ret u n => eqAV v u && eqMem m n
  | .pan v m, .pan u n => eqAV v u && eqMem m n
  | _, _ => false

/-- What all tell. -/
def agree : List (Option Out) → Option Out
  | [] => none
  | [o] => o
  | o :: r => match o, agree r with
    | some o, some p => cond (eqOut o p) (some p) none
    | _, _ => none

/-! Deferred calls: the first thing that they do is to ask what was thrown. -/

def isRec (o : Oper) : Bool :=
  match o.op, o.guard with
  | .call c, none => match c.callee, c.args.toList with
    | .builtin .recover, [] => true
    | _, _ => false
  | _, _ => false

/-- Up to the place where it is asked. -/
def toRec : Nat → List It → Option (List It)
  | 0, _ => none
  | n + 1, todo => match todo with
    | .ops rid ops i sure :: k => some (.ops rid ops i sure :: k)
    | .code i (.seq a b) :: k => toRec n (.code i a :: .code (i + nodes a) b :: k)
    | .code _ (.region id ops false) :: k => toRec n (.ops id ops 0 false :: k)
    | .code i (.scope b) :: k => toRec n (.code i b :: .inScope b :: k)
    | .code i (.block id b) :: k => toRec n (.code i b :: .inBlock id :: k)
    | _ => none

/-- What is told there. -/
def doRec (pv : Option AV) (c : Cfg) : Option Cfg :=
  match c.todo with
  | .ops rid ops i _ :: k => match ops[i]? with
    | some o => cond (isRec o && fits c.st o.dst) (some { c with todo := .ops rid ops (i + 1) false :: k, st := put c.st o.dst (pv.getD (.p (.sc .nilIface))) }) none
    | none => none
  | _ => none

/-- A deferred call's start, with what was thrown (in blocks of the same memory). -/
def initL (P : Program) (g : FuncId) (args : List AV) (m : Mem) (pv : Option AV) : Option Cfg :=
  match init P g args m with
  | some c => match toRec 20 c.todo with
    | some t => doRec pv { c with todo := t, st := { c.st with rnd := .late } }
    | none => none
  | none => none

/-- Where a call has thrown something. -/
def thrownAt (ord : List Nat) (c : Cfg) (u : AV) (m1 : Mem) : Cfg :=
  { c with todo := [.thrown (ren (backIdx ord c.st.mem.length) u)], st := back ord none c.st (.tup []) m1 }

/-- A run to the end. -/
def exec (P : Program) (E : Env) (K : List Call') : Nat → Cfg → Option Out
  | 0, _ => none
  | n + 1, c => match step P E c with
    | .next c => exec P E K n c
    | .must b c => cond b (exec P E K n c) none
    | .test b y z => match b with
      | true => exec P E K n y
      | false => exec P E K n z
    | .call g args m ord dst c => match knownAt K g args m with
      | some (v, m1) => exec P E K n { c with st := back ord dst c.st v m1 }
      | none => match init P g args m with
        | some ci => match exec P E K n ci with
          | some (.ret v m1) => exec P E K n { c with st := back ord dst c.st v m1 }
          | some (.pan u m1) => exec P E K n (thrownAt ord c u m1)
          | none => none
        | none => none
    | .late g args m ord pv c => match initL P g args m pv with
      | some ci => match exec P E K n ci with
        | some (.ret _ m1) => exec P E K n { c with st := back ord none c.st (.tup []) m1 }
        | _ => none
      | none => none
    | .round args m ord dst c => match initR args m with
      | some ci => match exec P E K n ci with
        | some (.ret v m1) => exec P E K n { c with st := back ord dst c.st v m1 }
        | _ => none
      | none => none
    | .range g args m ord L c => match init P g args m with
      | some ci => match exec P E K n ci with
        | some (.ret v m1) => match rangeEnd (back ord none c.st v m1).mem L with
          | some (m2, pd) => exec P E K n (behind c m2 pd)
          | none => none
        | _ => none
      | none => none
    | .draw rid ops c => match ledRun P E c.f rid (fun g args m => match knownAt K g args m with
          | some r => some r
          | none => match init P g args m with
            | some ci => match exec P E K n ci with
              | some (.ret v m1) => some (v, m1)
              | _ => none
            | none => none) ops c.st with
      | some (st, ok) => cond ok (exec P E K n { c with st := { st with mks := c.st.mks, rnd := c.st.rnd } }) none
      | none => none
    | .fork l => agree (l.map (exec P E K n))
    | .done o => some o
    | .fail => none

def execF (P : Program) (E : Env) (K : List Call') (n : Nat) (g : FuncId) (args : List AV) (m : Mem) : Option Out :=
  match init P g args m with
  | some c => exec P E K n c
  | none => none

/-- Answers along one way. -/
inductive Ans where
  | test (b : Bool)
  | call (v : AV) (m : Mem)
  | go
  | stop

inductive Fin where
  | out (o : Out)
  | at (c : Cfg)

def atHead (c : Cfg) : Bool := match c.todo with
  | .inLoop _ _ :: _ => true
  | .code _ (.loop _) :: _ => true
  | _ => false

/-- A way through code: its end, what must be true, what was called. -/
def drive (P : Program) (E : Env) : Nat → Cfg → List Ans → Option (Fin × Bool × List Call')
  | 0, _, _ => none
  | n + 1, c, as => match atHead c, as with
    | true, .stop :: _ => match step P E c with
      | .next c => some (.at c, true, [])
      | _ => none
    | true, .go :: as => match step P E c with
      | .next c => drive P E n c as
      | _ => none
    | true, _ => none
    | false, as => match step P E c, as with
      | .next c, as => drive P E n c as
      | .must b c, as => match drive P E n c as with
        | some (r, ok, cs) => some (r, b && ok, cs)
        | none => none
      | .test b y z, .test b' :: as => match drive P E n (match b' with | true => y | false => z) as with
        | some (r, ok, cs) => some (r, same b b' && ok, cs)
        | none => none
      | .call g args m ord dst c, .call v m1 :: as => match drive P E n { c with st := back ord dst c.st v m1 } as with
        | some (r, ok, cs) => some (r, ok, ⟨g, args, m, v, m1⟩ :: cs)
        | none => none
      | .done o, _ => some (.out o, true, [])
      | _, _ => none

end Go.Am
