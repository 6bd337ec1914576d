/-
  The executor again, cut so that the kernel goes through it fast: what is chosen between is closed, and a state's parts are handed on as they are. It is the same function.
-/
import Derived.Test.YtiphaojaolcidaaDoorAm19
namespace Go.Am
noncomputable section

abbrev OpT := Program → (Nat → Blk) → Bool → Nat → (Operand → AV) → Oper → Res

def oSlow (P : Program) (rd : Nat → Blk) (wr : Bool) (nid : Nat) (ρ : Operand → AV) (o : Oper) : Res := op1 P rd wr nid ρ o
def oMove (x : Operand) (_ : Program) (_ : Nat → Blk) (_ : Bool) (_ : Nat) (ρ : Operand → AV) (_ : Oper) : Res := some (ρ x, [], true)
def oLoad (t : TypeId) (a : Operand) (P : Program) (rd : Nat → Blk) (_ : Bool) (_ : Nat) (ρ : Operand → AV) (_ : Oper) : Res := okUpd (loadOp P rd t (ρ a))
def oStore (t : TypeId) (a v : Operand) (P : Program) (rd : Nat → Blk) (_ : Bool) (_ : Nat) (ρ : Operand → AV) (_ : Oper) : Res := storeOp P rd t (ρ a) (ρ v)
def oNil (x : Operand) (P : Program) (_ : Nat → Blk) (_ : Bool) (_ : Nat) (ρ : Operand → AV) (o : Oper) : Res := noUpd (nilCheckOp P ρ o (ρ x))
def oFieldAddr (t : TypeId) (x : Operand) (f : Nat) (P : Program) (_ : Nat → Blk) (_ : Bool) (_ : Nat) (ρ : Operand → AV) (_ : Oper) : Res := noUpd (fieldAddrOp P t (ρ x) f)
def oField (t : TypeId) (x : Operand) (f : Nat) (P : Program) (_ : Nat → Blk) (_ : Bool) (_ : Nat) (ρ : Operand → AV) (_ : Oper) : Res := okUpd (fieldOp P t (ρ x) f)
def oIndexAddr (t : TypeId) (x i : Operand) (P : Program) (_ : Nat → Blk) (_ : Bool) (_ : Nat) (ρ : Operand → AV) (_ : Oper) : Res := okUpd (indexAddrOp P t (ρ x) (ρ i))
def oIndex (t : TypeId) (x i : Operand) (P : Program) (_ : Nat → Blk) (_ : Bool) (_ : Nat) (ρ : Operand → AV) (_ : Oper) : Res := okUpd (indexOp P t (ρ x) (ρ i))
def oConvert (s d : TypeId) (x : Operand) (P : Program) (rd : Nat → Blk) (_ : Bool) (nid : Nat) (ρ : Operand → AV) (o : Oper) : Res := convertOp P rd nid ρ o s d (ρ x)

def oBin (op : BinOp) (t : TypeId) (x y : Operand) (P : Program) (_ : Nat → Blk) (_ : Bool) (_ : Nat) (ρ : Operand → AV) (o : Oper) : Res := match nilLit y with
    | true => slNilOp P op t (ρ x)
    | false => match nilPair (ρ x) (ρ y) with
      | true => nilOp P op t (ρ x) (ρ y)
      | false => match samePtr (ρ x) (ρ y) with
        | true => samePtrOp P op t
        | false => okUpd (binOpOp P ρ o op (ρ x) (ρ y))
def oUn (op : UnOp) (x : Operand) (P : Program) (_ : Nat → Blk) (_ : Bool) (_ : Nat) (ρ : Operand → AV) (o : Oper) : Res := okUpd (unOpOp P ρ o op (ρ x))
def oSlice (t : TypeId) (x : Operand) (lo hi mx : Option Operand) (P : Program) (_ : Nat → Blk) (_ : Bool) (_ : Nat) (ρ : Operand → AV) (_ : Oper) : Res := okUpd (sliceOp P ρ t (ρ x) lo hi mx)
def oExtract (x : Operand) (i : Nat) (_ : Program) (_ : Nat → Blk) (_ : Bool) (_ : Nat) (ρ : Operand → AV) (_ : Oper) : Res := match ρ x with
    | .tup vs => noUpd vs[i]?
    | _ => none
def oBuild (t : TypeId) (parts : Array (Nat × Operand)) (P : Program) (_ : Nat → Blk) (_ : Bool) (_ : Nat) (ρ : Operand → AV) (_ : Oper) : Res := okUpd (buildOp P t (parts.toList.map fun q => (q.1, ρ q.2)))
def oPick (c a b : Operand) (_ : Program) (_ : Nat → Blk) (_ : Bool) (_ : Nat) (ρ : Operand → AV) (_ : Oper) : Res := match ρ c with
    | .p (.sc (.bool t)) => some (cond t (ρ a) (ρ b), [], true)
    | _ => none

def opFn : Op → OpT
  | .binOp op t x y _ => oBin op t x y
  | .unOp op _ x => oUn op x
  | .slice t x lo hi mx => oSlice t x lo hi mx
  | .extract x i => oExtract x i
  | .build t parts => oBuild t parts
  | .pick c a b => oPick c a b
  | .move x => oMove x
  | .assign x => oMove x
  | .load t a => oLoad t a
  | .store t a v => oStore t a v
  | .nilCheck x => oNil x
  | .fieldAddr t x f => oFieldAddr t x f
  | .field t x f => oField t x f
  | .indexAddr t x i => oIndexAddr t x i
  | .index t x i => oIndex t x i
  | .convert s d x => oConvert s d x
  | _ => oSlow

def opF (P : Program) (rd : Nat → Blk) (wr : Bool) (nid : Nat) (ρ : Operand → AV) (o : Oper) : Res := opFn o.op P rd wr nid ρ o

theorem opF_eq (P : Program) (rd : Nat → Blk) (wr : Bool) (nid : Nat) (ρ : Operand → AV) (o : Oper) : opF P rd wr nid ρ o = op1 P rd wr nid ρ o := by
  obtain ⟨dst, op, type, pos, after, guard⟩ := o
  cases op <;> rfl

def lookF (tm : Tms) (i : Nat) : AV := List.rec (motive := fun _ => AV) .junk (fun p _ ih => Bool.rec (motive := fun _ => AV) ih p.2 (Nat.beq p.1 i)) tm

theorem lookF_eq : ∀ (tm : Tms) (i : Nat), lookF tm i = look tm i
  | [], _ => rfl
  | (k, v) :: r, i => by
    show Bool.rec (motive := fun _ => AV) (lookF r i) v (Nat.beq k i) = cond (Nat.beq k i) v (look r i)
    rw [lookF_eq r i]
    cases Nat.beq k i <;> rfl

def evTmp (t : Nat) (_ : Env) (tm : Tms) : AV := lookF tm t
def evSlow (x : Operand) (E : Env) (tm : Tms) : AV := ev E tm x
def evFn : Operand → Env → Tms → AV
  | .tmp t => evTmp t
  | .const v => fun _ _ => ofV v
  | x => evSlow x

def evF (E : Env) (tm : Tms) (x : Operand) : AV := evFn x E tm

theorem evF_eq (E : Env) (tm : Tms) : evF E tm = ev E tm := by
  funext x
  cases x with
  | tmp t => exact lookF_eq tm t
  | const v => rfl
  | global g => rfl
  | func f => rfl

def isCall : Op → Bool
  | .call _ | .defer _ | .panic _ => true
  | _ => false

def makesF : Op → Bool
  | .alloc _ | .box .. | .buildSlice .. | .makeSlice .. | .convert .. | .makeMap .. | .range .. => true
  | .call c => makes ⟨none, .call c, 0, "", #[], none⟩
  | _ => false

def opAt (ops : Array Oper) (i : Nat) : Option Oper := List.rec (motive := fun _ => Nat → Option Oper) (fun _ => none) (fun a _ ih i => Nat.rec (motive := fun _ => Option Oper) (some a) (fun j _ => ih j) i) ops.toList i

theorem opAt_eq (ops : Array Oper) (i : Nat) : opAt ops i = ops[i]? := by
  have : ∀ (l : List Oper) (i : Nat), List.rec (motive := fun _ => Nat → Option Oper) (fun _ => none) (fun a _ ih i => Nat.rec (motive := fun _ => Option Oper) (some a) (fun j _ => ih j) i) l i = l[i]? := by
    intro l
    induction l with
    | nil => intro i; rfl
    | cons a l ih =>
      intro i
      cases i with
      | zero => rfl
      | succ i => exact (ih i).trans (by simp)
  rw [opAt, this]
  simp

/-- Behind an operation that makes no block. -/
def outFn : Res → Option Tmp → FuncId → List It → Tms → Nat → Mem → Nat → List Mark → Rnd → Ev
  | none => fun _ _ _ _ _ _ _ _ _ => .fail
  | some (v, [], ok) => fun dst f k tm nt mem fix mks rnd => Option.rec (motive := fun _ => Ev) (.must (ok && true) ⟨f, k, ⟨tm, nt, mem, fix, mks, rnd⟩⟩) (fun d => .must (ok && Nat.blt d nt) ⟨f, k, ⟨(d, v) :: tm, nt, mem, fix, mks, rnd⟩⟩) dst
  | some (v, us, ok) => fun dst f k tm nt mem fix mks rnd => Option.rec (motive := fun _ => Ev) (.must (ok && true) ⟨f, k, ⟨tm, nt, apply mem us, fix, mks, rnd⟩⟩) (fun d => .must (ok && Nat.blt d nt) ⟨f, k, ⟨(d, v) :: tm, nt, apply mem us, fix, mks, rnd⟩⟩) dst

abbrev StT (α : Type) := Program → Env → FuncId → Tms → Nat → Mem → Nat → List Mark → Rnd → α

def slowly (todo : List It) : StT Ev := fun P E f tm nt mem fix mks rnd => step P E ⟨f, todo, ⟨tm, nt, mem, fix, mks, rnd⟩⟩

def doPlain (o : Oper) (rid : Nat) (ops : Array Oper) (i : Nat) (_ : Bool) (k : List It) : StT Ev := fun P E f tm nt mem fix mks rnd =>
  outFn (opF P (fun i => mem.getD i .dead) (E.wr f (o.dst.getD 0)) mem.length (evF E tm) o) o.dst f (.ops rid ops (i + 1) false :: k) tm nt mem fix mks rnd
def doSlow (_ : Oper) (rid : Nat) (ops : Array Oper) (i : Nat) (sure : Bool) (k : List It) : StT Ev := slowly (.ops rid ops i sure :: k)

abbrev DoT := Oper → Nat → Array Oper → Nat → Bool → List It → StT Ev
def pick3 : Bool → Bool → Option (Nat × Bool) → DoT
  | false, false, none => doPlain
  | _, _, _ => doSlow

def opsFn : Option Oper → Nat → Array Oper → Nat → Bool → List It → StT Ev
  | none => fun _ _ _ _ k _ _ f tm nt mem fix mks rnd => .next ⟨f, k, ⟨tm, nt, mem, fix, mks, rnd⟩⟩
  | some o => pick3 (isCall o.op) (makesF o.op) o.guard o

def cdSlow (i : Nat) (c : Code) (k : List It) : StT Ev := slowly (.code i c :: k)
def cdSkip (_ : Nat) (k : List It) : StT Ev := fun _ _ f tm nt mem fix mks rnd => .next ⟨f, k, ⟨tm, nt, mem, fix, mks, rnd⟩⟩
def cdReg (id : Nat) (ops : Array Oper) (_ : Nat) (k : List It) : StT Ev := fun _ _ f tm nt mem fix mks rnd => .next ⟨f, .ops id ops 0 false :: k, ⟨tm, nt, mem, fix, mks, rnd⟩⟩
def cdSeq (a b : Code) (i : Nat) (k : List It) : StT Ev := fun _ _ f tm nt mem fix mks rnd => .next ⟨f, .code i a :: .code (i + nodes a) b :: k, ⟨tm, nt, mem, fix, mks, rnd⟩⟩
def cdBlock (id : Nat) (b : Code) (i : Nat) (k : List It) : StT Ev := fun _ _ f tm nt mem fix mks rnd => .next ⟨f, .code i b :: .inBlock id :: k, ⟨tm, nt, mem, fix, mks, rnd⟩⟩
def condFn : AV → Cfg → Cfg → Ev
  | .p (.sc (.bool t)) => fun y z => .test t y z
  | _ => fun _ _ => .fail
def cdCond (x : Operand) (a b : Code) (i : Nat) (k : List It) : StT Ev := fun _ E f tm nt mem fix mks rnd =>
  condFn (evF E tm x) ⟨f, .code (i + 1) a :: forgets (E.keep f (2 * i)) k, ⟨tm, nt, mem, fix, mks, rnd⟩⟩ ⟨f, .code (i + 1 + nodes a) b :: forgets (E.keep f (2 * i)) k, ⟨tm, nt, mem, fix, mks, rnd⟩⟩
def cdExit (id : Nat) (i : Nat) (k : List It) : StT Ev := fun P E f tm nt mem fix mks rnd => Option.rec (motive := fun _ => Ev) (slowly (.code i (.exit id) :: k) P E f tm nt mem fix mks rnd) (fun k' => .next ⟨f, k', ⟨tm, nt, mem, fix, mks, rnd⟩⟩) (exitIn id k)
def codeFn : Code → Nat → List It → StT Ev
  | .block id b => cdBlock id b
  | .cond x a b => cdCond x a b
  | .exit id => cdExit id
  | .skip => cdSkip
  | .seq a b => cdSeq a b
  | .region id ops false => cdReg id ops
  | c => fun i k => cdSlow i c k

def itNext (k : List It) : StT Ev := fun _ _ f tm nt mem fix mks rnd => .next ⟨f, k, ⟨tm, nt, mem, fix, mks, rnd⟩⟩
def itFn : It → List It → StT Ev
  | .inBlock _ => itNext
  | .inScope _ => itNext
  | .ops rid ops i sure => fun k => opsFn (opAt ops i) rid ops i sure k
  | .code i c => fun k => codeFn c i k
  | x => fun k => slowly (x :: k)

def todoFn : List It → StT Ev
  | [] => slowly []
  | x :: k => itFn x k

def stepX (P : Program) (E : Env) (c : Cfg) : Ev := Cfg.rec (motive := fun _ => Ev) (fun f todo st => St.rec (motive := fun _ => Ev) (fun tm nt mem fix mks rnd => todoFn todo P E f tm nt mem fix mks rnd) st) c

theorem makesF_eq (o : Oper) : makesF o.op = makes o := by
  obtain ⟨dst, op, type, pos, after, guard⟩ := o
  cases op <;> rfl

theorem stepX_eq (P : Program) (E : Env) (c : Cfg) : stepX P E c = step P E c := by
  obtain ⟨f, todo, tm, nt, mem, fix, mks, rnd⟩ := c
  cases todo with
  | nil => rfl
  | cons x k =>
    cases x with
    | code i c =>
      cases c with
      | region id ops b => cases b <;> rfl
      | cond x a b =>
        show condFn (evF E tm x) _ _ = _
        rw [evF_eq]
        simp only [step]
        split
        · rename_i t ht; rw [ht]; rfl
        · rename_i hne
          generalize ev E tm x = v at hne
          cases v with
          | p v => cases v with
            | sc v => cases v with
              | bool t => exact absurd rfl (hne t)
              | _ => rfl
            | _ => rfl
          | _ => rfl
      | exit id =>
        show Option.rec (motive := fun _ => Ev) _ _ (exitIn id k) = _
        cases he : exitIn id k with
        | none => rfl
        | some k' => simp only [step, he]
      | _ => rfl
    | ops rid ops i sure =>
      show opsFn (opAt ops i) rid ops i sure k P E f tm nt mem fix mks rnd = _
      rw [opAt_eq]
      cases ho : ops[i]? with
      | none => simp only [opsFn, step, ho]
      | some o =>
        show pick3 (isCall o.op) (makesF o.op) o.guard o rid ops i sure k P E f tm nt mem fix mks rnd = _
        cases h1 : isCall o.op with
        | true => rfl
        | false =>
          cases h2 : makesF o.op with
          | true => rfl
          | false =>
            cases h3 : o.guard with
            | some q => rfl
            | none =>
              rw [makesF_eq] at h2
              have ht : target (ev E tm) o = none := by
                obtain ⟨dst, op, type, pos, after, guard⟩ := o
                cases op <;> first | rfl | cases h1
              have hy : targetY (ev E tm) o = none := by
                obtain ⟨dst, op, type, pos, after, guard⟩ := o
                cases op <;> first | rfl | cases h1
              show outFn (opF P (fun i => mem.getD i .dead) (E.wr f (o.dst.getD 0)) mem.length (evF E tm) o) o.dst f (.ops rid ops (i + 1) false :: k) tm nt mem fix mks rnd = _
              rw [opF_eq, evF_eq]
              have hr : reserve o mem = mem := by simp [reserve, h2]
              simp only [step, ho, wants, h3, doOp, ht, hy, hr]
              cases hop : op1 P (fun i => mem.getD i .dead) (E.wr f (o.dst.getD 0)) mem.length (ev E tm) o with
              | none =>
                clear hop hr hy ht h3 h2 ho
                obtain ⟨dst, op, type, pos, after, guard⟩ := o
                cases op <;> first | rfl | cases h1
              | some r =>
                obtain ⟨v, us, ok⟩ := r
                cases us with
                | nil => cases hd : o.dst <;> simp [outFn, fits, put, apply]
                | cons u us => cases hd : o.dst <;> simp [outFn, fits, put]
    | _ => rfl

/-! Runs. -/

abbrev RunT := Program → Env → List Call' → (Cfg → Option Out) → Option Out

def rNext (c : Cfg) : RunT := fun _ _ _ ih => ih c
def rMust (b : Bool) (c : Cfg) : RunT := fun _ _ _ ih => Bool.rec (motive := fun _ => Option Out) none (ih c) b
def rTest (b : Bool) (y z : Cfg) : RunT := fun _ _ _ ih => Bool.rec (motive := fun _ => Option Out) (ih z) (ih y) b
def rCall (g : FuncId) (args : List AV) (m : Mem) (ord : List Nat) (dst : Option Tmp) (c : Cfg) : RunT := fun P _ K ih => match knownAt K g args m with
      | some (v, m1) => ih { c with st := back ord dst c.st v m1 }
      | none => match init P g args m with
        | some ci => match ih ci with
          | some (.ret v m1) => ih { c with st := back ord dst c.st v m1 }
          | some (.pan u m1) => ih (thrownAt ord c u m1)
          | none => none
        | none => none
def rLate (g : FuncId) (args : List AV) (m : Mem) (ord : List Nat) (pv : Option AV) (c : Cfg) : RunT := fun P _ _ ih => match initL P g args m pv with
      | some ci => match ih ci with
        | some (.ret _ m1) => ih { c with st := back ord none c.st (.tup []) m1 }
        | _ => none
      | none => none
def rRound (args : List AV) (m : Mem) (ord : List Nat) (dst : Option Tmp) (c : Cfg) : RunT := fun _ _ _ ih => match initR args m with
      | some ci => match ih ci with
        | some (.ret v m1) => ih { c with st := back ord dst c.st v m1 }
        | _ => none
      | none => none
def rRange (g : FuncId) (args : List AV) (m : Mem) (ord : List Nat) (L : Nat) (c : Cfg) : RunT := fun P _ _ ih => match init P g args m with
      | some ci => match ih ci with
        | some (.ret v m1) => match rangeEnd (back ord none c.st v m1).mem L with
          | some (m2, pd) => ih (behind c m2 pd)
          | none => none
        | _ => none
      | none => none
def rDraw (rid : Nat) (ops : Array Oper) (c : Cfg) : RunT := fun P E K ih => match ledRun P E c.f rid (fun g args m => match knownAt K g args m with
          | some r => some r
          | none => match init P g args m with
            | some ci => match ih ci with
              | some (.ret v m1) => some (v, m1)
              | _ => none
            | none => none) ops c.st with
      | some (st, ok) => cond ok (ih { c with st := { st with mks := c.st.mks, rnd := c.st.rnd } }) none
      | none => none
def rFork (l : List Cfg) : RunT := fun _ _ _ ih => agree (l.map ih)
def rDone (o : Out) : RunT := fun _ _ _ _ => some o
def rFail : RunT := fun _ _ _ _ => none

def evnFn : Ev → RunT
  | .next c => rNext c
  | .must b c => rMust b c
  | .test b y z => rTest b y z
  | .call g args m ord dst c => rCall g args m ord dst c
  | .round args m ord dst c => rRound args m ord dst c
  | .range g args m ord L c => rRange g args m ord L c
  | .draw rid ops c => rDraw rid ops c
  | .fork l => rFork l
  | .late g args m ord pv c => rLate g args m ord pv c
  | .done o => rDone o
  | .fail => rFail

def execX (P : Program) (E : Env) (K : List Call') (n : Nat) : Cfg → Option Out :=
  Nat.rec (motive := fun _ => Cfg → Option Out) (fun _ => none) (fun _ ih c => evnFn (stepX P E c) P E K ih) n

theorem execX_eq (P : Program) (E : Env) (K : List Call') : ∀ n, execX P E K n = exec P E K n
  | 0 => by funext c; rfl
  | n + 1 => by
    funext c
    show evnFn (stepX P E c) P E K (execX P E K n) = exec P E K (n + 1) c
    rw [stepX_eq, execX_eq P E K n]
    unfold exec
    cases step P E c with
    | must b c => cases b <;> rfl
    | test b y z => cases b <;> rfl
    | _ => rfl

def execXF (P : Program) (E : Env) (K : List Call') (n : Nat) (g : FuncId) (args : List AV) (m : Mem) : Option Out :=
  match init P g args m with
  | some c => execX P E K n c
  | none => none

theorem execXF_eq (P : Program) (E : Env) (K : List Call') (n : Nat) (g : FuncId) (args : List AV) (m : Mem) : execXF P E K n g args m = execF P E K n g args m := by
  unfold execXF execF
  rw [execX_eq]
  cases init P g args m <;> rfl

/-- A closed call, with calls that are known. -/
theorem does_fast {P : Program} {E : Env} (hN : NamesOk P) {K : List Call'} (hK : Calls' P E K) {n : Nat} {f : FuncId} {args : List AV} {m m' : Mem} {v : AV} (h : execXF P E K n f args m = some (.ret v m')) : Does P E f args m v m' :=
  does_of_known hN hK (n := n) (by rw [← execXF_eq]; exact h)

end
end Go.Am
