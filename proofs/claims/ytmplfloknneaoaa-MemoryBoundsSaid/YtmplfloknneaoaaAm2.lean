/-
  The executor's definitions, more: regions whose order is open, runs of closed calls ('exec'), runs along one way with answers given ('drive'). Nothing is proved here.
-/
import Derived.Test.YtmplfloknneaoaaAm1
namespace Go.Am

/-- What an operation looks at and changes: blocks; 'big': it may be any. -/
structure Fp where
  rd : List Nat
  wr : List Nat
  big : Bool

def fpOf (ρ : Operand → AV) (o : Oper) : Fp :=
  match o.op with
  | .load _ a => ⟨refs (ρ a), [], false⟩
  | .store _ a _ => ⟨[], refs (ρ a), false⟩
  | .convert _ _ x => ⟨refs (ρ x), [], false⟩
  | .call c => match c.callee, c.args.toList with
    | .builtin .append, [s, x] => ⟨refs (ρ x), refs (ρ s), false⟩
    | .builtin .copy, [d, s] => ⟨refs (ρ s), refs (ρ d), false⟩
    | _, _ => ⟨[], [], false⟩
  | _ => ⟨[], [], false⟩

def common (a b : List Nat) : Bool := a.any fun i => has b i

def clash (a : Fp) (ma : Bool) (b : Fp) (mb : Bool) : Bool :=
  (a.big && (b.big || mb || !b.rd.isEmpty || !b.wr.isEmpty)) || (b.big && (ma || !a.rd.isEmpty || !a.wr.isEmpty)) ||
  common a.wr b.rd || common a.wr b.wr || common b.wr a.rd

/-- Which operations must come ahead of each (one bit each). -/
def befores (ops : List Oper) : List Nat :=
  ops.foldl (fun acc o => acc ++ [o.after.toList.foldl (fun s e => match e.ground with
    | .textOnly _ | .gcOnly _ => s
    | _ => s ||| 2 ^ e.on ||| acc.getD e.on 0) 0]) []

/-- Slots that an operation looks at. -/
def looks (ops : Array Oper) (o : Oper) : List Nat :=
  (match o.guard with
    | some (j, _) => match ops[j]? with
      | some oj => oj.dst.toList
      | none => []
    | none => []) ++ o.op.operands.toList.filterMap fun
      | .tmp t => some t
      | _ => none

def slotsClash (ops : Array Oper) (x y : Oper) : Bool :=
  common x.dst.toList (looks ops y) || common y.dst.toList (looks ops x) || common x.dst.toList y.dst.toList

/-- Operations that may come in either order leave each other's slots alone. -/
def slotsOk (ops : Array Oper) : Bool :=
  let l := ops.toList
  let bef := befores l
  (List.range l.length).all fun i => (List.range i).all fun j =>
    Nat.testBit (bef.getD i 0) j || match ops[i]?, ops[j]? with
      | some a, some b => !slotsClash ops a b
      | _, _ => false

structure Call' where
  g : FuncId
  args : List AV
  m : Mem
  v : AV
  m' : Mem

def same (b b' : Bool) : Bool := match b' with
  | true => b
  | false => !b

/-- Who answers: calls, tests. -/
structure Oracle where
  call : Nat → FuncId → List AV → Mem → Option (AV × Mem)
  test : Nat → Bool → Option Bool

def frees (n : Nat) : Mem := List.replicate n .free

/-- One operation of a region whose order is open: the state behind it, what must be true, what was called, what was looked at. -/
def drawOp (P : Program) (E : Env) (f rid : Nat) (O : Oracle) (base i : Nat) (o : Oper) (st : St) : Option (St × Bool × List Call' × Fp) :=
  match target (ev E st.tm) o with
  | some (g, args) =>
    let ord := close st.mem 0 args
    match O.call i g (renL (idx ord) args) (pack st.mem ord) with
    | some (v, m1) => match ord, m1 with
      | [], [] => some (put st o.dst v, fits st o.dst, [⟨g, renL (idx ord) args, pack st.mem ord, v, m1⟩], ⟨[], [], false⟩)
      | _, _ => some (back ord o.dst st v m1, fits st o.dst && allLt ord st.mem.length, [⟨g, renL (idx ord) args, pack st.mem ord, v, m1⟩], ⟨[], [], true⟩)
    | none => none
  | none => match op1 P (fun i => st.mem.getD i .dead) (E.wr f rid) (base + i) (ev E st.tm) o with
    | some (v, us, ok) => some (put { st with mem := apply st.mem us } o.dst v, ok && fits st o.dst, [], fpOf (ev E st.tm) o)
    | none => none

def goes (bef : Nat) (fp : Fp) (mk : Bool) : List (Nat × Fp × Bool) → Bool
  | [] => true
  | (j, q, mq) :: r => (Nat.testBit bef j || !clash fp mk q mq) && goes bef fp mk r

def drawGo (P : Program) (E : Env) (f rid : Nat) (O : Oracle) (ops : Array Oper) (bef : List Nat) (base : Nat) : Nat → Nat → St → List (Nat × Fp × Bool) → Option (St × Bool × List Call')
  | 0, _, st, _ => some (st, true, [])
  | n + 1, i, st, acc => match ops[i]? with
    | none => some (st, true, [])
    | some o =>
      let skip := fun (b : Bool) => match drawGo P E f rid O ops bef base n (i + 1) (put st o.dst (.tup [])) acc with
        | some (st', ok, cs) => some (st', b && (fits st o.dst && ok), cs)
        | none => none
      let doIt := fun (b : Bool) => match drawOp P E f rid O base i o st with
        | some (st', ok, cs, fp) => match drawGo P E f rid O ops bef base n (i + 1) st' ((i, fp, makes o) :: acc) with
          | some (st'', ok', cs') => some (st'', b && (ok && (goes (bef.getD i 0) fp (makes o) acc && ok')), cs ++ cs')
          | none => none
        | none => none
      match wants ops st.tm o with
      | .yes => doIt true
      | .no => skip true
      | .ask _ b want => match O.test i b with
        | some b' => match b' == want with
          | true => doIt (same b b')
          | false => skip (same b b')
        | none => none
      | .lost => none

def drawRun (P : Program) (E : Env) (f rid : Nat) (O : Oracle) (ops : Array Oper) (st : St) : Option (St × Bool × List Call') :=
  match drawGo P E f rid O ops (befores ops.toList) st.mem.length ops.size 0 { st with mem := st.mem ++ frees ops.size } [] with
  | some (st', ok, cs) => some (st', slotsOk ops && ok, cs)
  | none => none

def init (P : Program) (g : FuncId) (args : List AV) (m : Mem) : Option Cfg :=
  match P.funcs[g]? with
  | some fn => match fn.body with
    | some c => some { f := g, todo := [.code 0 c], st := { tm := (upTo args.length).zip args, nt := max fn.ntmps args.length, mem := m, fix := m.length } }
    | none => none
  | none => none

/-- A run to the end. -/
def exec (P : Program) (E : Env) : Nat → Cfg → Option Out
  | 0, _ => none
  | n + 1, c => match step P E c with
    | .next c => exec P E n c
    | .must b c => cond b (exec P E n c) none
    | .test b y z => match b with
      | true => exec P E n y
      | false => exec P E n z
    | .call g args m ord dst c => match init P g args m with
      | some ci => match exec P E n ci with
        | some (.ret v m1) => exec P E n { c with st := back ord dst c.st v m1 }
        | none => none
      | none => none
    | .draw _ _ _ => none
    | .done o => some o
    | .fail => none

def execF (P : Program) (E : Env) (n : Nat) (g : FuncId) (args : List AV) (m : Mem) : Option Out :=
  match init P g args m with
  | some c => exec P E n c
  | none => none

/-- Answers along one way. -/
inductive Ans where
  | test (b : Bool)
  | call (v : AV) (m : Mem)
  | draw (l : List (Nat × Ans))
  | go
  | stop

def ansAt : List (Nat × Ans) → Nat → Option Ans
  | [], _ => none
  | (j, a) :: r, i => cond (Nat.beq j i) (some a) (ansAt r i)

def oracleOf (l : List (Nat × Ans)) : Oracle where
  call i _ _ _ := match ansAt l i with
    | some (.call v m) => some (v, m)
    | _ => none
  test i _ := match ansAt l i with
    | some (.test b) => some b
    | _ => none

inductive Fin where
  | out (o : Out)
  | at (c : Cfg)

def atHead (c : Cfg) : Bool := match c.todo with
  | .inLoop _ _ :: _ => true
  | .code _ (.loop _) :: _ => true
  | _ => false

/-- A way through code: its end, what must be true, what was called. -/
def drive (P : Program) (E : Env) : Nat → Cfg → List Ans → Option (Fin × Bool × List Call')
  | 0, _, _ => none
  | n + 1, c, as => match atHead c, as with
    | true, .stop :: _ => match step P E c with
      | .next c => some (.at c, true, [])
      | _ => none
    | true, .go :: as => match step P E c with
      | .next c => drive P E n c as
      | _ => none
    | true, _ => none
    | false, as => match step P E c, as with
      | .next c, as => drive P E n c as
      | .must b c, as => match drive P E n c as with
        | some (r, ok, cs) => some (r, b && ok, cs)
        | none => none
      | .test b y z, .test b' :: as => match drive P E n (match b' with | true => y | false => z) as with
        | some (r, ok, cs) => some (r, same b b' && ok, cs)
        | none => none
      | .call g args m ord dst c, .call v m1 :: as => match drive P E n { c with st := back ord dst c.st v m1 } as with
        | some (r, ok, cs) => some (r, ok, ⟨g, args, m, v, m1⟩ :: cs)
        | none => none
      | .done o, _ => some (.out o, true, [])
      | _, _ => none

end Go.Am
