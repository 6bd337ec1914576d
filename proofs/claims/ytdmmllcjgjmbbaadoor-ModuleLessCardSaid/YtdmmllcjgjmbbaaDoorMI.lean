/-
  Modules: what a row's data says of one, as pure values. (For any program with such types.)
  All names of a module, all its lists of instructions: module.names, module.codes.
  Nm: its call, run, in pieces.
-/
import Derived.Test.YtdmmllcjgjmbbaaDoorMH

section
namespace Go.Am
open Go.RowKit

structure Ty where
  p : Int
  r : Int
structure Im where
  mo : ByteArray
  nm : ByteArray
  ty : Int
structure Fu where
  ty : Int
  lo : Int
  l : List Ins
structure Li where
  mn : Int
  mx : Int
  cap : Bool
structure Gl where
  mu : Bool
  l : List Ins
structure Ex where
  nm : ByteArray
  kind : Int
  ix : Int
structure El where
  l : List Ins
  fs : List Int
structure Da where
  l : List Ins
  bs : List Int

abbrev pL (l : List Ins) : PV := .ps l.length 8 (encL l)
abbrev pT (k : IntKind) (l : List Int) : PV := .ps l.length 1 (encT k l)
abbrev encTy (x : Ty) : List PV := [.sc (.int .i64 x.p), .sc (.int .i64 x.r)]
abbrev encIm (x : Im) : List PV := [.sc (.string x.mo), .sc (.string x.nm), .sc (.int .i64 x.ty)]
abbrev encFu (x : Fu) : List PV := [.sc (.int .i64 x.ty), .sc (.int .i64 x.lo), pL x.l]
abbrev encLi (x : Li) : List PV := [.sc (.int .u32 x.mn), .sc (.int .u32 x.mx), .sc (.bool x.cap)]
abbrev encGl (x : Gl) : List PV := [.sc (.bool x.mu), pL x.l]
abbrev encEx (x : Ex) : List PV := [.sc (.string x.nm), .sc (.int .i64 x.kind), .sc (.int .u32 x.ix)]
abbrev encEl (x : El) : List PV := [pL x.l, pT .u32 x.fs]
abbrev encDa (x : Da) : List PV := [pL x.l, pT .u8 x.bs]

def wfT (k : IntKind) (l : List Int) : Prop := l.length ≤ maxLen ∧ ∀ t ∈ l, (Lit.int k t).wf = true
def wfLs (l : List Ins) : Prop := l.length ≤ maxLen ∧ wfL l
def wfTy (x : Ty) : Prop := (Lit.int .i64 x.p).wf = true ∧ (Lit.int .i64 x.r).wf = true
def wfIm (x : Im) : Prop := x.mo.size ≤ maxLen ∧ x.nm.size ≤ maxLen ∧ (Lit.int .i64 x.ty).wf = true
def wfFu (x : Fu) : Prop := (Lit.int .i64 x.ty).wf = true ∧ (Lit.int .i64 x.lo).wf = true ∧ wfLs x.l
def wfLi (x : Li) : Prop := (Lit.int .u32 x.mn).wf = true ∧ (Lit.int .u32 x.mx).wf = true
def wfGl (x : Gl) : Prop := wfLs x.l
def wfEx (x : Ex) : Prop := x.nm.size ≤ maxLen ∧ (Lit.int .i64 x.kind).wf = true ∧ (Lit.int .u32 x.ix).wf = true
def wfEl (x : El) : Prop := wfLs x.l ∧ wfT .u32 x.fs
def wfDa (x : Da) : Prop := wfLs x.l ∧ wfT .u8 x.bs

structure Mo where
  tys : List Ty
  ims : List Im
  fns : List Fu
  tas : List Li
  mes : List Li
  gls : List Gl
  exs : List Ex
  st : Bool
  sn : Int
  els : List El
  das : List Da

def wfLen {α : Type} (w : α → Prop) (l : List α) : Prop := l.length ≤ maxLen ∧ ∀ x ∈ l, w x

structure Mo.wf (M : Mo) : Prop where
  tys : wfLen wfTy M.tys
  ims : wfLen wfIm M.ims
  fns : wfLen wfFu M.fns
  tas : wfLen wfLi M.tas
  mes : wfLen wfLi M.mes
  gls : wfLen wfGl M.gls
  exs : wfLen wfEx M.exs
  sn : (Lit.int .u32 M.sn).wf = true
  els : wfLen wfEl M.els
  das : wfLen wfDa M.das

abbrev Mo.pvs (M : Mo) : List PV := [.ps M.tys.length 2 (M.tys.flatMap encTy), .ps M.ims.length 3 (M.ims.flatMap encIm), .ps M.fns.length 3 (M.fns.flatMap encFu), .ps M.tas.length 3 (M.tas.flatMap encLi), .ps M.mes.length 3 (M.mes.flatMap encLi),
  .ps M.gls.length 2 (M.gls.flatMap encGl), .ps M.exs.length 3 (M.exs.flatMap encEx), .sc (.bool M.st), .sc (.int .u32 M.sn), .ps M.els.length 2 (M.els.flatMap encEl), .ps M.das.length 2 (M.das.flatMap encDa)]

theorem flat_at {α : Type} {z : Nat} {enc : α → List PV} (hz : ∀ x, (enc x).length = z) : ∀ {l : List α} {k : Nat} {x : α}, l[k]? = some x → ∀ j, j < z → (l.flatMap enc).getD (k * z + j) .bad = (enc x).getD j .bad
  | y :: r, 0, x, h, j, hj => by
    simp only [List.getElem?_cons_zero, Option.some.injEq] at h
    subst h
    rw [List.flatMap_cons, Nat.zero_mul, Nat.zero_add, List.getD_eq_getElem?_getD, List.getD_eq_getElem?_getD, List.getElem?_append_left (by rw [hz]; exact hj)]
  | y :: r, k + 1, x, h, j, hj => by
    simp only [List.getElem?_cons_succ] at h
    have ih := flat_at hz h j hj
    rw [List.flatMap_cons, List.getD_eq_getElem?_getD, List.getElem?_append_right (by rw [hz, Nat.add_mul]; omega), hz, show (k + 1) * z + j - z = k * z + j by rw [Nat.add_mul]; omega, ← List.getD_eq_getElem?_getD]
    exact ih

theorem flat_len {α : Type} {z : Nat} {enc : α → List PV} (hz : ∀ x, (enc x).length = z) : ∀ l : List α, (l.flatMap enc).length = l.length * z
  | [] => by simp
  | x :: r => by rw [List.flatMap_cons, List.length_append, hz, flat_len hz r, List.length_cons, Nat.add_mul]; omega

section
variable {H : Type} {enc : TypeId × Value → H} {P : Program} {w : World} {base : Nat} {spare : Nat → Bool} {held : Bool}

theorem cells_of_ones {t : TypeId} {ts : List TypeId} {fs : Array Field} (ht : P.underlying t = some (.struct fs)) (hz : P.cellsOf t = ts.length) (hf : (fs.toList.map fun f => (f.offset, f.type)) = ts.zipIdx.map fun q => (q.2, q.1))
    (h1 : ∀ t ∈ ts, P.cellsOf t = 1) {fuel : Nat} {cs : List Value} {x : DataW H × List MemPlace} (h : DataW.trod enc P w base spare held fuel t cs = some x) :
    ∃ m, cs.length = ts.length ∧ ∀ (i : Nat) (u : TypeId), ts[i]? = some u → ∃ y, DataW.trod enc P w base spare held m u ((cs.drop i).take 1) = some y := by
  obtain ⟨m, rfl, hlen, hg⟩ := cells_of_struct ht h
  rw [hz] at hlen
  refine ⟨m, hlen, fun i u hi => ?_⟩
  obtain ⟨f, q1, q2, q3⟩ := fld (fs := fs) (i := i) (o := i) (t := u) (by rw [hf, List.getElem?_map, List.getElem?_zipIdx, hi]; simp)
  obtain ⟨y, hy⟩ := hg i f q1
  rw [q2, q3, h1 u (List.mem_of_getElem? hi)] at hy
  exact ⟨y, hy⟩

structure MoT (P : Program) (tM lTy lIm lFu lLi lGl lEx lEl lDa tTy tIm tFu tCo tLi tGl tEx tEl tDa tL tI ti tu tn tt ts tb t8 tk : TypeId) : Prop where
  ins : ∃ fs, InsT P tL tI ti tu tn tt fs
  us : P.underlying ts = some .string
  ub : P.underlying tb = some .bool
  u8 : P.underlying t8 = some (.slice tk)
  uk : P.underlying tk = some (.int .u8)
  one : [ti, tu, tL, tt, ts, tb, t8, tk, lTy, lIm, lFu, lLi, lGl, lEx, lEl, lDa].all (fun t => P.cellsOf t == 1) = true
  sl : ∀ q ∈ [(lTy, tTy), (lIm, tIm), (lFu, tFu), (lLi, tLi), (lGl, tGl), (lEx, tEx), (lEl, tEl), (lDa, tDa)], P.underlying q.1 = some (.slice q.2)
  st : ∀ q ∈ [(tM, [lTy, lIm, lFu, lLi, lLi, lGl, lEx, tb, tu, lEl, lDa]), (tTy, [ti, ti]), (tIm, [ts, ts, ti]), (tCo, [ti, tL]), (tLi, [tu, tu, tb]), (tGl, [tb, tL]), (tEx, [ts, ti, tu]), (tEl, [tL, tt]), (tDa, [tL, t8])],
    ∃ fs, P.underlying q.1 = some (.struct fs) ∧ P.cellsOf q.1 = q.2.length ∧ (fs.toList.map fun f => (f.offset, f.type)) = q.2.zipIdx.map fun q => (q.2, q.1)
  fu : ∃ fs, P.underlying tFu = some (.struct fs) ∧ P.cellsOf tFu = 3 ∧ (fs.toList.map fun f => (f.offset, f.type)) = [(0, ti), (1, tCo)]

theorem cells_of_words {tt tu : TypeId} {k : IntKind} (ht : P.underlying tt = some (.slice tu)) (hu : P.underlying tu = some (.int k)) (h1 : P.cellsOf tu = 1) {fuel : Nat} {cs : List Value} {x : DataW H × List MemPlace}
    (h : DataW.trod enc P w base spare held fuel tt cs = some x) : ∃ l : List Int, wfT k l ∧ CellsOk w [pT k l] cs := by
  obtain ⟨l, w1, w2, k1⟩ := cells_of_ints ht hu h1 h
  exact ⟨l, ⟨w1, w2⟩, k1⟩

end
section
variable {H : Type} {enc : TypeId × Value → H} {P : Program} {w : World} {base : Nat} {spare : Nat → Bool} {held : Bool} {tM lTy lIm lFu lLi lGl lEx lEl lDa tTy tIm tFu tCo tLi tGl tEx tEl tDa tL tI ti tu tn tt ts tb t8 tk : TypeId}

theorem MoT.c1 (T : MoT P tM lTy lIm lFu lLi lGl lEx lEl lDa tTy tIm tFu tCo tLi tGl tEx tEl tDa tL tI ti tu tn tt ts tb t8 tk) {t : TypeId} (h : t ∈ [ti, tu, tL, tt, ts, tb, t8, tk, lTy, lIm, lFu, lLi, lGl, lEx, lEl, lDa]) : P.cellsOf t = 1 := by
  simpa using List.all_eq_true.1 T.one t h

theorem words_of_trod (T : MoT P tM lTy lIm lFu lLi lGl lEx lEl lDa tTy tIm tFu tCo tLi tGl tEx tEl tDa tL tI ti tu tn tt ts tb t8 tk) {fuel : Nat} {cs : List Value} {x : DataW H × List MemPlace} (h : DataW.trod enc P w base spare held fuel tt cs = some x) : ∃ l : List Int, wfT .u32 l ∧ CellsOk w [pT .u32 l] cs := by
  obtain ⟨fs, I⟩ := T.ins
  exact cells_of_words I.kt I.ku (T.c1 (by simp)) h

theorem bytes_of_trod (T : MoT P tM lTy lIm lFu lLi lGl lEx lEl lDa tTy tIm tFu tCo tLi tGl tEx tEl tDa tL tI ti tu tn tt ts tb t8 tk) {fuel : Nat} {cs : List Value} {x : DataW H × List MemPlace} (h : DataW.trod enc P w base spare held fuel t8 cs = some x) : ∃ l : List Int, wfT .u8 l ∧ CellsOk w [pT .u8 l] cs :=
  cells_of_words T.u8 T.uk (T.c1 (by simp)) h

theorem list_of_trod (T : MoT P tM lTy lIm lFu lLi lGl lEx lEl lDa tTy tIm tFu tCo tLi tGl tEx tEl tDa tL tI ti tu tn tt ts tb t8 tk) {fuel : Nat} {cs : List Value} {x : DataW H × List MemPlace} (h : DataW.trod enc P w base spare held fuel tL cs = some x) : ∃ l : List Ins, wfLs l ∧ CellsOk w [pL l] cs := by
  obtain ⟨fs, I⟩ := T.ins
  exact ins_of_trod I fuel cs x h

theorem ty_of_trod (T : MoT P tM lTy lIm lFu lLi lGl lEx lEl lDa tTy tIm tFu tCo tLi tGl tEx tEl tDa tL tI ti tu tn tt ts tb t8 tk) {fuel : Nat} {cs : List Value} {x : DataW H × List MemPlace} (h : DataW.trod enc P w base spare held fuel tTy cs = some x) : ∃ y : Ty, wfTy y ∧ CellsOk w (encTy y) cs := by
  obtain ⟨fs, I⟩ := T.ins
  obtain ⟨fs', q1, q2, q3⟩ := T.st (tTy, [ti, ti]) (by simp)
  obtain ⟨m, hlen, get⟩ := cells_of_ones q1 q2 q3 (by simp [T.c1]) h
  match cs, hlen with
  | [u0, u1], _ =>
    obtain ⟨y0, e0⟩ := get 0 ti rfl
    obtain ⟨y1, e1⟩ := get 1 ti rfl
    simp only [List.drop_zero, List.drop_succ_cons, List.take_succ_cons, List.take_zero] at e0 e1
    obtain ⟨n0, w0, k0⟩ := cells_of_int I.ki e0
    obtain ⟨n1, w1, k1⟩ := cells_of_int I.ki e1
    exact ⟨⟨n0, n1⟩, ⟨w0, w1⟩, k0.cat (k1)⟩

theorem im_of_trod (T : MoT P tM lTy lIm lFu lLi lGl lEx lEl lDa tTy tIm tFu tCo tLi tGl tEx tEl tDa tL tI ti tu tn tt ts tb t8 tk) {fuel : Nat} {cs : List Value} {x : DataW H × List MemPlace} (h : DataW.trod enc P w base spare held fuel tIm cs = some x) : ∃ y : Im, wfIm y ∧ CellsOk w (encIm y) cs := by
  obtain ⟨fs, I⟩ := T.ins
  obtain ⟨fs', q1, q2, q3⟩ := T.st (tIm, [ts, ts, ti]) (by simp)
  obtain ⟨m, hlen, get⟩ := cells_of_ones q1 q2 q3 (by simp [T.c1]) h
  match cs, hlen with
  | [u0, u1, u2], _ =>
    obtain ⟨y0, e0⟩ := get 0 ts rfl
    obtain ⟨y1, e1⟩ := get 1 ts rfl
    obtain ⟨y2, e2⟩ := get 2 ti rfl
    simp only [List.drop_zero, List.drop_succ_cons, List.take_succ_cons, List.take_zero] at e0 e1 e2
    obtain ⟨n0, w0, k0⟩ := cells_of_string T.us e0
    obtain ⟨n1, w1, k1⟩ := cells_of_string T.us e1
    obtain ⟨n2, w2, k2⟩ := cells_of_int I.ki e2
    exact ⟨⟨n0, n1, n2⟩, ⟨w0, w1, w2⟩, k0.cat (k1.cat (k2))⟩

theorem li_of_trod (T : MoT P tM lTy lIm lFu lLi lGl lEx lEl lDa tTy tIm tFu tCo tLi tGl tEx tEl tDa tL tI ti tu tn tt ts tb t8 tk) {fuel : Nat} {cs : List Value} {x : DataW H × List MemPlace} (h : DataW.trod enc P w base spare held fuel tLi cs = some x) : ∃ y : Li, wfLi y ∧ CellsOk w (encLi y) cs := by
  obtain ⟨fs, I⟩ := T.ins
  obtain ⟨fs', q1, q2, q3⟩ := T.st (tLi, [tu, tu, tb]) (by simp)
  obtain ⟨m, hlen, get⟩ := cells_of_ones q1 q2 q3 (by simp [T.c1]) h
  match cs, hlen with
  | [u0, u1, u2], _ =>
    obtain ⟨y0, e0⟩ := get 0 tu rfl
    obtain ⟨y1, e1⟩ := get 1 tu rfl
    obtain ⟨y2, e2⟩ := get 2 tb rfl
    simp only [List.drop_zero, List.drop_succ_cons, List.take_succ_cons, List.take_zero] at e0 e1 e2
    obtain ⟨n0, w0, k0⟩ := cells_of_int I.ku e0
    obtain ⟨n1, w1, k1⟩ := cells_of_int I.ku e1
    obtain ⟨n2, k2⟩ := cells_of_bool T.ub e2
    exact ⟨⟨n0, n1, n2⟩, ⟨w0, w1⟩, k0.cat (k1.cat (k2))⟩

theorem gl_of_trod (T : MoT P tM lTy lIm lFu lLi lGl lEx lEl lDa tTy tIm tFu tCo tLi tGl tEx tEl tDa tL tI ti tu tn tt ts tb t8 tk) {fuel : Nat} {cs : List Value} {x : DataW H × List MemPlace} (h : DataW.trod enc P w base spare held fuel tGl cs = some x) : ∃ y : Gl, wfGl y ∧ CellsOk w (encGl y) cs := by
  obtain ⟨fs, I⟩ := T.ins
  obtain ⟨fs', q1, q2, q3⟩ := T.st (tGl, [tb, tL]) (by simp)
  obtain ⟨m, hlen, get⟩ := cells_of_ones q1 q2 q3 (by simp [T.c1]) h
  match cs, hlen with
  | [u0, u1], _ =>
    obtain ⟨y0, e0⟩ := get 0 tb rfl
    obtain ⟨y1, e1⟩ := get 1 tL rfl
    simp only [List.drop_zero, List.drop_succ_cons, List.take_succ_cons, List.take_zero] at e0 e1
    obtain ⟨n0, k0⟩ := cells_of_bool T.ub e0
    obtain ⟨n1, w1, k1⟩ := list_of_trod T e1
    exact ⟨⟨n0, n1⟩, w1, k0.cat (k1)⟩

theorem ex_of_trod (T : MoT P tM lTy lIm lFu lLi lGl lEx lEl lDa tTy tIm tFu tCo tLi tGl tEx tEl tDa tL tI ti tu tn tt ts tb t8 tk) {fuel : Nat} {cs : List Value} {x : DataW H × List MemPlace} (h : DataW.trod enc P w base spare held fuel tEx cs = some x) : ∃ y : Ex, wfEx y ∧ CellsOk w (encEx y) cs := by
  obtain ⟨fs, I⟩ := T.ins
  obtain ⟨fs', q1, q2, q3⟩ := T.st (tEx, [ts, ti, tu]) (by simp)
  obtain ⟨m, hlen, get⟩ := cells_of_ones q1 q2 q3 (by simp [T.c1]) h
  match cs, hlen with
  | [u0, u1, u2], _ =>
    obtain ⟨y0, e0⟩ := get 0 ts rfl
    obtain ⟨y1, e1⟩ := get 1 ti rfl
    obtain ⟨y2, e2⟩ := get 2 tu rfl
    simp only [List.drop_zero, List.drop_succ_cons, List.take_succ_cons, List.take_zero] at e0 e1 e2
    obtain ⟨n0, w0, k0⟩ := cells_of_string T.us e0
    obtain ⟨n1, w1, k1⟩ := cells_of_int I.ki e1
    obtain ⟨n2, w2, k2⟩ := cells_of_int I.ku e2
    exact ⟨⟨n0, n1, n2⟩, ⟨w0, w1, w2⟩, k0.cat (k1.cat (k2))⟩

theorem el_of_trod (T : MoT P tM lTy lIm lFu lLi lGl lEx lEl lDa tTy tIm tFu tCo tLi tGl tEx tEl tDa tL tI ti tu tn tt ts tb t8 tk) {fuel : Nat} {cs : List Value} {x : DataW H × List MemPlace} (h : DataW.trod enc P w base spare held fuel tEl cs = some x) : ∃ y : El, wfEl y ∧ CellsOk w (encEl y) cs := by
  obtain ⟨fs, I⟩ := T.ins
  obtain ⟨fs', q1, q2, q3⟩ := T.st (tEl, [tL, tt]) (by simp)
  obtain ⟨m, hlen, get⟩ := cells_of_ones q1 q2 q3 (by simp [T.c1]) h
  match cs, hlen with
  | [u0, u1], _ =>
    obtain ⟨y0, e0⟩ := get 0 tL rfl
    obtain ⟨y1, e1⟩ := get 1 tt rfl
    simp only [List.drop_zero, List.drop_succ_cons, List.take_succ_cons, List.take_zero] at e0 e1
    obtain ⟨n0, w0, k0⟩ := list_of_trod T e0
    obtain ⟨n1, w1, k1⟩ := words_of_trod T e1
    exact ⟨⟨n0, n1⟩, ⟨w0, w1⟩, k0.cat (k1)⟩

theorem da_of_trod (T : MoT P tM lTy lIm lFu lLi lGl lEx lEl lDa tTy tIm tFu tCo tLi tGl tEx tEl tDa tL tI ti tu tn tt ts tb t8 tk) {fuel : Nat} {cs : List Value} {x : DataW H × List MemPlace} (h : DataW.trod enc P w base spare held fuel tDa cs = some x) : ∃ y : Da, wfDa y ∧ CellsOk w (encDa y) cs := by
  obtain ⟨fs, I⟩ := T.ins
  obtain ⟨fs', q1, q2, q3⟩ := T.st (tDa, [tL, t8]) (by simp)
  obtain ⟨m, hlen, get⟩ := cells_of_ones q1 q2 q3 (by simp [T.c1]) h
  match cs, hlen with
  | [u0, u1], _ =>
    obtain ⟨y0, e0⟩ := get 0 tL rfl
    obtain ⟨y1, e1⟩ := get 1 t8 rfl
    simp only [List.drop_zero, List.drop_succ_cons, List.take_succ_cons, List.take_zero] at e0 e1
    obtain ⟨n0, w0, k0⟩ := list_of_trod T e0
    obtain ⟨n1, w1, k1⟩ := bytes_of_trod T e1
    exact ⟨⟨n0, n1⟩, ⟨w0, w1⟩, k0.cat (k1)⟩

theorem fu_of_trod (T : MoT P tM lTy lIm lFu lLi lGl lEx lEl lDa tTy tIm tFu tCo tLi tGl tEx tEl tDa tL tI ti tu tn tt ts tb t8 tk) {fuel : Nat} {cs : List Value} {x : DataW H × List MemPlace} (h : DataW.trod enc P w base spare held fuel tFu cs = some x) : ∃ y : Fu, wfFu y ∧ CellsOk w (encFu y) cs := by
  obtain ⟨fs, I⟩ := T.ins
  obtain ⟨fs0, r1, r2, r3⟩ := T.fu
  obtain ⟨fs', q1, q2, q3⟩ := T.st (tCo, [ti, tL]) (by simp)
  obtain ⟨m, rfl, hlen, hg⟩ := cells_of_struct r1 h
  rw [r2] at hlen
  obtain ⟨f0, a1, a2, a3⟩ := fld (fs := fs0) (i := 0) (o := 0) (t := ti) (by rw [r3]; rfl)
  obtain ⟨f1, b1, b2, b3⟩ := fld (fs := fs0) (i := 1) (o := 1) (t := tCo) (by rw [r3]; rfl)
  obtain ⟨y0, e0⟩ := hg 0 f0 a1
  obtain ⟨y1, e1⟩ := hg 1 f1 b1
  rw [a2, a3, T.c1 (t := ti) (by simp)] at e0
  rw [b2, b3, q2] at e1
  match cs, hlen with
  | [u0, u1, u2], _ =>
    simp only [List.drop_zero, List.drop_succ_cons, List.take_succ_cons, List.take_zero, List.length_cons, List.length_nil, Nat.zero_add, Nat.reduceAdd] at e0 e1
    obtain ⟨n, _, get⟩ := cells_of_ones q1 q2 q3 (by simp [T.c1]) e1
    obtain ⟨z0, g0⟩ := get 0 ti rfl
    obtain ⟨z1, g1⟩ := get 1 tL rfl
    simp only [List.drop_zero, List.drop_succ_cons, List.take_succ_cons, List.take_zero] at g0 g1
    obtain ⟨n0, w0, k0⟩ := cells_of_int I.ki e0
    obtain ⟨n1, w1, k1⟩ := cells_of_int I.ki g0
    obtain ⟨n2, w2, k2⟩ := list_of_trod T g1
    exact ⟨⟨n0, n1, n2⟩, ⟨w0, w1, w2⟩, k0.cat (k1.cat k2)⟩

theorem els_of_trod {α : Type} {encE : α → List PV} {wf : α → Prop} {lt te : TypeId} {z : Nat} (hl : P.underlying lt = some (.slice te)) (hz : P.cellsOf te = z) (h1 : 1 ≤ z) {fuel : Nat} {cs : List Value} {x : DataW H × List MemPlace} (h : DataW.trod enc P w base spare held fuel lt cs = some x)
    (hE : ∀ (fuel : Nat) (us : List Value) y, DataW.trod enc P w base spare held fuel te us = some y → ∃ a : α, wf a ∧ CellsOk w (encE a) us) : ∃ l : List α, wfLen wf l ∧ CellsOk w [.ps l.length z (l.flatMap encE)] cs := by
  obtain ⟨l, a, b, c⟩ := cells_of_slice (encE := encE) (wf := wf) hl (by omega) h fun n _ us y hy => hE n us y hy
  rw [hz] at c
  exact ⟨l, ⟨a, b⟩, c⟩

theorem mo_of_trod (T : MoT P tM lTy lIm lFu lLi lGl lEx lEl lDa tTy tIm tFu tCo tLi tGl tEx tEl tDa tL tI ti tu tn tt ts tb t8 tk) {fuel : Nat} {cs : List Value} {x : DataW H × List MemPlace} (h : DataW.trod enc P w base spare held fuel tM cs = some x) : ∃ M : Mo, M.wf ∧ CellsOk w M.pvs cs := by
  obtain ⟨fs, I⟩ := T.ins
  obtain ⟨fs', q1, q2, q3⟩ := T.st (tM, [lTy, lIm, lFu, lLi, lLi, lGl, lEx, tb, tu, lEl, lDa]) (by simp)
  obtain ⟨m, hlen, get⟩ := cells_of_ones q1 q2 q3 (by simp [T.c1]) h
  have z : ∀ t ts', (t, ts') ∈ [(tM, [lTy, lIm, lFu, lLi, lLi, lGl, lEx, tb, tu, lEl, lDa]), (tTy, [ti, ti]), (tIm, [ts, ts, ti]), (tCo, [ti, tL]), (tLi, [tu, tu, tb]), (tGl, [tb, tL]), (tEx, [ts, ti, tu]), (tEl, [tL, tt]), (tDa, [tL, t8])] → P.cellsOf t = ts'.length :=
    fun t ts' hm => by
      obtain ⟨_, _, e, _⟩ := T.st (t, ts') hm
      exact e
  obtain ⟨_, _, z3, _⟩ := T.fu
  match cs, hlen with
  | [u0, u1, u2, u3, u4, u5, u6, u7, u8, u9, u10], _ =>
    obtain ⟨y0, e0⟩ := get 0 lTy rfl
    obtain ⟨y1, e1⟩ := get 1 lIm rfl
    obtain ⟨y2, e2⟩ := get 2 lFu rfl
    obtain ⟨y3, e3⟩ := get 3 lLi rfl
    obtain ⟨y4, e4⟩ := get 4 lLi rfl
    obtain ⟨y5, e5⟩ := get 5 lGl rfl
    obtain ⟨y6, e6⟩ := get 6 lEx rfl
    obtain ⟨y7, e7⟩ := get 7 tb rfl
    obtain ⟨y8, e8⟩ := get 8 tu rfl
    obtain ⟨y9, e9⟩ := get 9 lEl rfl
    obtain ⟨y10, e10⟩ := get 10 lDa rfl
    simp only [List.drop_zero, List.drop_succ_cons, List.take_succ_cons, List.take_zero] at e0 e1 e2 e3 e4 e5 e6 e7 e8 e9 e10
    obtain ⟨n0, w0, k0⟩ := els_of_trod (encE := encTy) (wf := wfTy) (T.sl (lTy, tTy) (by simp)) (z tTy [ti, ti] (by simp)) (Nat.le_of_ble_eq_true rfl) e0 fun _ _ _ g => ty_of_trod T g
    obtain ⟨n1, w1, k1⟩ := els_of_trod (encE := encIm) (wf := wfIm) (T.sl (lIm, tIm) (by simp)) (z tIm [ts, ts, ti] (by simp)) (Nat.le_of_ble_eq_true rfl) e1 fun _ _ _ g => im_of_trod T g
    obtain ⟨n2, w2, k2⟩ := els_of_trod (encE := encFu) (wf := wfFu) (T.sl (lFu, tFu) (by simp)) z3 (Nat.le_of_ble_eq_true rfl) e2 fun _ _ _ g => fu_of_trod T g
    obtain ⟨n3, w3, k3⟩ := els_of_trod (encE := encLi) (wf := wfLi) (T.sl (lLi, tLi) (by simp)) (z tLi [tu, tu, tb] (by simp)) (Nat.le_of_ble_eq_true rfl) e3 fun _ _ _ g => li_of_trod T g
    obtain ⟨n4, w4, k4⟩ := els_of_trod (encE := encLi) (wf := wfLi) (T.sl (lLi, tLi) (by simp)) (z tLi [tu, tu, tb] (by simp)) (Nat.le_of_ble_eq_true rfl) e4 fun _ _ _ g => li_of_trod T g
    obtain ⟨n5, w5, k5⟩ := els_of_trod (encE := encGl) (wf := wfGl) (T.sl (lGl, tGl) (by simp)) (z tGl [tb, tL] (by simp)) (Nat.le_of_ble_eq_true rfl) e5 fun _ _ _ g => gl_of_trod T g
    obtain ⟨n6, w6, k6⟩ := els_of_trod (encE := encEx) (wf := wfEx) (T.sl (lEx, tEx) (by simp)) (z tEx [ts, ti, tu] (by simp)) (Nat.le_of_ble_eq_true rfl) e6 fun _ _ _ g => ex_of_trod T g
    obtain ⟨n7, k7⟩ := cells_of_bool T.ub e7
    obtain ⟨n8, w8, k8⟩ := cells_of_int I.ku e8
    obtain ⟨n9, w9, k9⟩ := els_of_trod (encE := encEl) (wf := wfEl) (T.sl (lEl, tEl) (by simp)) (z tEl [tL, tt] (by simp)) (Nat.le_of_ble_eq_true rfl) e9 fun _ _ _ g => el_of_trod T g
    obtain ⟨n10, w10, k10⟩ := els_of_trod (encE := encDa) (wf := wfDa) (T.sl (lDa, tDa) (by simp)) (z tDa [tL, t8] (by simp)) (Nat.le_of_ble_eq_true rfl) e10 fun _ _ _ g => da_of_trod T g
    exact ⟨⟨n0, n1, n2, n3, n4, n5, n6, n7, n8, n9, n10⟩, ⟨w0, w1, w2, w3, w4, w5, w6, w8, w9, w10⟩, k0.cat (k1.cat (k2.cat (k3.cat (k4.cat (k5.cat (k6.cat (k7.cat (k8.cat (k9.cat (k10))))))))))⟩

end
end Go.Am
end

section
set_option linter.unusedSimpArgs false
set_option linter.unusedVariables false
namespace Go.Proofs.YtdmmllcjgjmbbaaDoor.N
open Go Go.Am

noncomputable def nmzOrc : Orc := orcL noCall noLed [(26, 0)] [] []
def nmzSc : Sc := .fin
noncomputable def nmzTree (M : Mo) : Tree :=
 (.at (bodyCfg Tryd.prog env 26 0 [.mp 0 0, .os none 0 0 [], .p (.ps M.ims.length 3 (List.flatMap encIm M.ims)), sI .i64 (↑M.ims.length : Int), sI .i64 0] ([.pc M.pvs]) 0 37))
theorem nmz_tree (M : Mo) : growF Tryd.prog env nmzOrc 1000000 26 ([AV.agg (List.map AV.p M.pvs)]) ([]) nmzSc = nmzTree M := by kernel_rfl

noncomputable def codOrc : Orc := orcL noCall noLed [(19, 0)] [] []
def codSc : Sc := .fin
noncomputable def codTree (M : Mo) : Tree :=
 (.at (bodyCfg Tryd.prog env 19 0 [.mp 0 0, .os none 0 0 [], .p (.ps M.fns.length 3 (List.flatMap encFu M.fns)), sI .i64 (↑M.fns.length : Int), sI .i64 0] ([.pc M.pvs]) 0 66))
theorem cod_tree (M : Mo) : growF Tryd.prog env codOrc 1000000 19 ([AV.agg (List.map AV.p M.pvs)]) ([]) codSc = codTree M := by kernel_rfl

noncomputable def nmzAOrc : Orc := orcL noCall noLed [(26, 0), (26, 2)] [(26, 0, 1)] [(26, 5, 0), (26, 5, 1)]
def nmzASc : Sc := .fin
noncomputable def nmzATree (M : Mo) (n : Nat) (k : Nat) (i : Nat) (cs : List PV) (a : List PV) : Tree :=
 (.test (decide ((↑i : Int) < (↑k : Int)))
 (.must (inB (↑i : Int) k && true && true)
 (.must (isStr (cs.getD ((↑i : Int).toNat * 3) PV.bad) && (isStr (cs.getD ((↑i : Int).toNat * 3 + 1) PV.bad) && (isInt IntKind.i64 (cs.getD ((↑i : Int).toNat * 3 + 1 + 1) PV.bad) && true)) && true)
 (.at (bodyCfg Tryd.prog env 26 0 [.mp 0 0, .os (some 1) 2 1 [.sc (.string (pvStr (cs.getD ((↑i : Int).toNat * 3) PV.bad))), .sc (.string (pvStr (cs.getD ((↑i : Int).toNat * 3 + 1) PV.bad)))], .p (.ps k 3 cs), sI .i64 (↑k : Int), sI .i64 (IntKind.i64.wrap ((↑i : Int) + 1))] ([.pc M.pvs, .tok]) 0 37))))
 (.at (bodyCfg Tryd.prog env 26 2 [.os none 0 0 [], .p (.ps M.exs.length 3 (List.flatMap encEx M.exs)), sI .i64 (↑M.exs.length : Int), sI .i64 0] ([]) 0 37)))
theorem nmzA_tree (M : Mo) (n : Nat) (k : Nat) (i : Nat) (cs : List PV) (a : List PV) : grow Tryd.prog env nmzAOrc 1000000 true (bodyCfg Tryd.prog env 26 0 ([AV.mp 0 0, AV.os Option.none 0 0 [], AV.p (PV.ps k 3 cs), sI IntKind.i64 (↑k : Int), sI IntKind.i64 (↑i : Int)]) ([Blk.pc M.pvs]) 0 37) nmzASc atEnd = nmzATree M n k i cs a := by kernel_rfl

noncomputable def nmzBOrc : Orc := orcL noCall noLed [(26, 0), (26, 2)] [(26, 0, 1)] [(26, 5, 0), (26, 5, 1), (26, 6, 6)]
def nmzBSc : Sc := .fin
noncomputable def nmzBTree (M : Mo) (n : Nat) (k : Nat) (i : Nat) (cs : List PV) (a : List PV) : Tree :=
 (.test (decide ((↑i : Int) < (↑k : Int)))
 (.must (inB (↑i : Int) k && true && true)
 (.must (isStr (cs.getD ((↑i : Int).toNat * 3) PV.bad) && (isStr (cs.getD ((↑i : Int).toNat * 3 + 1) PV.bad) && (isInt IntKind.i64 (cs.getD ((↑i : Int).toNat * 3 + 1 + 1) PV.bad) && true)) && true)
 (.must (((n + 2) * 16).ble lim && (n + 2).ble lim && true)
 (.at (bodyCfg Tryd.prog env 26 0 [.mp 0 0, .os (some 1) (n + 2) 1 (a ++ [.sc (.string (pvStr (cs.getD ((↑i : Int).toNat * 3) PV.bad))), .sc (.string (pvStr (cs.getD ((↑i : Int).toNat * 3 + 1) PV.bad)))]), .p (.ps k 3 cs), sI .i64 (↑k : Int), sI .i64 (IntKind.i64.wrap ((↑i : Int) + 1))] ([.pc M.pvs, .tok]) 0 37)))))
 (.at (bodyCfg Tryd.prog env 26 2 [.os (some 0) n 1 a, .p (.ps M.exs.length 3 (List.flatMap encEx M.exs)), sI .i64 (↑M.exs.length : Int), sI .i64 0] ([.tok]) 0 37)))
theorem nmzB_tree (M : Mo) (n : Nat) (k : Nat) (i : Nat) (cs : List PV) (a : List PV) : grow Tryd.prog env nmzBOrc 1000000 true (bodyCfg Tryd.prog env 26 0 ([AV.mp 0 0, AV.os (Option.some 1) n 1 a, AV.p (PV.ps k 3 cs), sI IntKind.i64 (↑k : Int), sI IntKind.i64 (↑i : Int)]) ([Blk.pc M.pvs, Blk.tok]) 0 37) nmzBSc atEnd = nmzBTree M n k i cs a := by kernel_rfl

noncomputable def nmzCOrc : Orc := orcL noCall noLed [(26, 0), (26, 2)] [(26, 0, 3)] [(26, 10, 0), (26, 10, 1)]
def nmzCSc : Sc := .fin
noncomputable def nmzCTree (n : Nat) (k : Nat) (i : Nat) (cs : List PV) (a : List PV) : Tree :=
 (.test (decide ((↑i : Int) < (↑k : Int)))
 (.must (inB (↑i : Int) k && true && true)
 (.must (isStr (cs.getD ((↑i : Int).toNat * 3) PV.bad) && (isInt IntKind.i64 (cs.getD ((↑i : Int).toNat * 3 + 1) PV.bad) && (isInt IntKind.u32 (cs.getD ((↑i : Int).toNat * 3 + 1 + 1) PV.bad) && true)) && true)
 (.at (bodyCfg Tryd.prog env 26 2 [.os (some 0) 1 1 [.sc (.string (pvStr (cs.getD ((↑i : Int).toNat * 3) PV.bad)))], .p (.ps k 3 cs), sI .i64 (↑k : Int), sI .i64 (IntKind.i64.wrap ((↑i : Int) + 1))] ([.tok]) 0 37))))
 (.out (.ret (.os none 0 0 []) [])))
theorem nmzC_tree (n : Nat) (k : Nat) (i : Nat) (cs : List PV) (a : List PV) : grow Tryd.prog env nmzCOrc 1000000 true (bodyCfg Tryd.prog env 26 2 ([AV.os Option.none 0 0 [], AV.p (PV.ps k 3 cs), sI IntKind.i64 (↑k : Int), sI IntKind.i64 (↑i : Int)]) ([]) 0 37) nmzCSc atEnd = nmzCTree n k i cs a := by kernel_rfl

noncomputable def nmzDOrc : Orc := orcL noCall noLed [(26, 0), (26, 2)] [(26, 0, 3)] [(26, 10, 0), (26, 10, 1), (26, 11, 4)]
def nmzDSc : Sc := .fin
noncomputable def nmzDTree (n : Nat) (k : Nat) (i : Nat) (cs : List PV) (a : List PV) : Tree :=
 (.test (decide ((↑i : Int) < (↑k : Int)))
 (.must (inB (↑i : Int) k && true && true)
 (.must (isStr (cs.getD ((↑i : Int).toNat * 3) PV.bad) && (isInt IntKind.i64 (cs.getD ((↑i : Int).toNat * 3 + 1) PV.bad) && (isInt IntKind.u32 (cs.getD ((↑i : Int).toNat * 3 + 1 + 1) PV.bad) && true)) && true)
 (.must (((n + 1) * 16).ble lim && (n + 1).ble lim && true)
 (.at (bodyCfg Tryd.prog env 26 2 [.os (some 0) (n + 1) 1 (a ++ [.sc (.string (pvStr (cs.getD ((↑i : Int).toNat * 3) PV.bad)))]), .p (.ps k 3 cs), sI .i64 (↑k : Int), sI .i64 (IntKind.i64.wrap ((↑i : Int) + 1))] ([.tok]) 0 37)))))
 (.out (.ret (.os (some 0) n 1 a) [.tok])))
theorem nmzD_tree (n : Nat) (k : Nat) (i : Nat) (cs : List PV) (a : List PV) : grow Tryd.prog env nmzDOrc 1000000 true (bodyCfg Tryd.prog env 26 2 ([AV.os (Option.some 0) n 1 a, AV.p (PV.ps k 3 cs), sI IntKind.i64 (↑k : Int), sI IntKind.i64 (↑i : Int)]) ([Blk.tok]) 0 37) nmzDSc atEnd = nmzDTree n k i cs a := by kernel_rfl

noncomputable def codAOrc : Orc := orcL noCall noLed [(19, 0), (19, 2)] [(19, 0, 1)] [(19, 5, 0), (19, 5, 1)]
def codASc : Sc := .fin
noncomputable def codATree (M : Mo) (n : Nat) (k : Nat) (i : Nat) (cs : List PV) (a : List PV) : Tree :=
 (.test (decide ((↑i : Int) < (↑k : Int)))
 (.must (inB (↑i : Int) k && true && true)
 (.must (isInt IntKind.i64 (cs.getD ((↑i : Int).toNat * 3) PV.bad) && (isInt IntKind.i64 (cs.getD ((↑i : Int).toNat * 3 + 1) PV.bad) && (isPs (cs.getD ((↑i : Int).toNat * 3 + 1 + 1) PV.bad) && true)) && true)
 (.at (bodyCfg Tryd.prog env 19 0 [.mp 0 0, .os (some 1) 1 1 [.ps (psLen (cs.getD ((↑i : Int).toNat * 3 + 1 + 1) PV.bad)) (psSz (cs.getD ((↑i : Int).toNat * 3 + 1 + 1) PV.bad)) (psCells (cs.getD ((↑i : Int).toNat * 3 + 1 + 1) PV.bad))], .p (.ps k 3 cs), sI .i64 (↑k : Int), sI .i64 (IntKind.i64.wrap ((↑i : Int) + 1))] ([.pc M.pvs, .tok]) 0 66))))
 (.at (bodyCfg Tryd.prog env 19 2 [.mp 0 0, .os none 0 0 [], .p (.ps M.gls.length 2 (List.flatMap encGl M.gls)), sI .i64 (↑M.gls.length : Int), sI .i64 0] ([.pc M.pvs]) 0 66)))
theorem codA_tree (M : Mo) (n : Nat) (k : Nat) (i : Nat) (cs : List PV) (a : List PV) : grow Tryd.prog env codAOrc 1000000 true (bodyCfg Tryd.prog env 19 0 ([AV.mp 0 0, AV.os Option.none 0 0 [], AV.p (PV.ps k 3 cs), sI IntKind.i64 (↑k : Int), sI IntKind.i64 (↑i : Int)]) ([Blk.pc M.pvs]) 0 66) codASc atEnd = codATree M n k i cs a := by kernel_rfl

noncomputable def codBOrc : Orc := orcL noCall noLed [(19, 0), (19, 2)] [(19, 0, 1)] [(19, 5, 0), (19, 5, 1), (19, 6, 5)]
def codBSc : Sc := .fin
noncomputable def codBTree (M : Mo) (n : Nat) (k : Nat) (i : Nat) (cs : List PV) (a : List PV) : Tree :=
 (.test (decide ((↑i : Int) < (↑k : Int)))
 (.must (inB (↑i : Int) k && true && true)
 (.must (isInt IntKind.i64 (cs.getD ((↑i : Int).toNat * 3) PV.bad) && (isInt IntKind.i64 (cs.getD ((↑i : Int).toNat * 3 + 1) PV.bad) && (isPs (cs.getD ((↑i : Int).toNat * 3 + 1 + 1) PV.bad) && true)) && true)
 (.must (((n + 1) * 24).ble lim && (n + 1).ble lim && true)
 (.at (bodyCfg Tryd.prog env 19 0 [.mp 0 0, .os (some 1) (n + 1) 1 (a ++ [.ps (psLen (cs.getD ((↑i : Int).toNat * 3 + 1 + 1) PV.bad)) (psSz (cs.getD ((↑i : Int).toNat * 3 + 1 + 1) PV.bad)) (psCells (cs.getD ((↑i : Int).toNat * 3 + 1 + 1) PV.bad))]), .p (.ps k 3 cs), sI .i64 (↑k : Int), sI .i64 (IntKind.i64.wrap ((↑i : Int) + 1))] ([.pc M.pvs, .tok]) 0 66)))))
 (.at (bodyCfg Tryd.prog env 19 2 [.mp 0 0, .os (some 1) n 1 a, .p (.ps M.gls.length 2 (List.flatMap encGl M.gls)), sI .i64 (↑M.gls.length : Int), sI .i64 0] ([.pc M.pvs, .tok]) 0 66)))
theorem codB_tree (M : Mo) (n : Nat) (k : Nat) (i : Nat) (cs : List PV) (a : List PV) : grow Tryd.prog env codBOrc 1000000 true (bodyCfg Tryd.prog env 19 0 ([AV.mp 0 0, AV.os (Option.some 1) n 1 a, AV.p (PV.ps k 3 cs), sI IntKind.i64 (↑k : Int), sI IntKind.i64 (↑i : Int)]) ([Blk.pc M.pvs, Blk.tok]) 0 66) codBSc atEnd = codBTree M n k i cs a := by kernel_rfl

noncomputable def codCOrc : Orc := orcL noCall noLed [(19, 2), (19, 4)] [(19, 0, 3)] [(19, 10, 0), (19, 10, 1)]
def codCSc : Sc := .fin
noncomputable def codCTree (M : Mo) (n : Nat) (k : Nat) (i : Nat) (cs : List PV) (a : List PV) : Tree :=
 (.test (decide ((↑i : Int) < (↑k : Int)))
 (.must (inB (↑i : Int) k && true && true)
 (.must (isBool (cs.getD ((↑i : Int).toNat * 2) PV.bad) && (isPs (cs.getD ((↑i : Int).toNat * 2 + 1) PV.bad) && true) && true)
 (.at (bodyCfg Tryd.prog env 19 2 [.mp 0 0, .os (some 1) 1 1 [.ps (psLen (cs.getD ((↑i : Int).toNat * 2 + 1) PV.bad)) (psSz (cs.getD ((↑i : Int).toNat * 2 + 1) PV.bad)) (psCells (cs.getD ((↑i : Int).toNat * 2 + 1) PV.bad))], .p (.ps k 2 cs), sI .i64 (↑k : Int), sI .i64 (IntKind.i64.wrap ((↑i : Int) + 1))] ([.pc M.pvs, .tok]) 0 66))))
 (.at (bodyCfg Tryd.prog env 19 4 [.mp 0 0, .os none 0 0 [], .p (.ps M.els.length 2 (List.flatMap encEl M.els)), sI .i64 (↑M.els.length : Int), sI .i64 0] ([.pc M.pvs]) 0 66)))
theorem codC_tree (M : Mo) (n : Nat) (k : Nat) (i : Nat) (cs : List PV) (a : List PV) : grow Tryd.prog env codCOrc 1000000 true (bodyCfg Tryd.prog env 19 2 ([AV.mp 0 0, AV.os Option.none 0 0 [], AV.p (PV.ps k 2 cs), sI IntKind.i64 (↑k : Int), sI IntKind.i64 (↑i : Int)]) ([Blk.pc M.pvs]) 0 66) codCSc atEnd = codCTree M n k i cs a := by kernel_rfl

noncomputable def codDOrc : Orc := orcL noCall noLed [(19, 2), (19, 4)] [(19, 0, 3)] [(19, 10, 0), (19, 10, 1), (19, 11, 4)]
def codDSc : Sc := .fin
noncomputable def codDTree (M : Mo) (n : Nat) (k : Nat) (i : Nat) (cs : List PV) (a : List PV) : Tree :=
 (.test (decide ((↑i : Int) < (↑k : Int)))
 (.must (inB (↑i : Int) k && true && true)
 (.must (isBool (cs.getD ((↑i : Int).toNat * 2) PV.bad) && (isPs (cs.getD ((↑i : Int).toNat * 2 + 1) PV.bad) && true) && true)
 (.must (((n + 1) * 24).ble lim && (n + 1).ble lim && true)
 (.at (bodyCfg Tryd.prog env 19 2 [.mp 0 0, .os (some 1) (n + 1) 1 (a ++ [.ps (psLen (cs.getD ((↑i : Int).toNat * 2 + 1) PV.bad)) (psSz (cs.getD ((↑i : Int).toNat * 2 + 1) PV.bad)) (psCells (cs.getD ((↑i : Int).toNat * 2 + 1) PV.bad))]), .p (.ps k 2 cs), sI .i64 (↑k : Int), sI .i64 (IntKind.i64.wrap ((↑i : Int) + 1))] ([.pc M.pvs, .tok]) 0 66)))))
 (.at (bodyCfg Tryd.prog env 19 4 [.mp 0 0, .os (some 1) n 1 a, .p (.ps M.els.length 2 (List.flatMap encEl M.els)), sI .i64 (↑M.els.length : Int), sI .i64 0] ([.pc M.pvs, .tok]) 0 66)))
theorem codD_tree (M : Mo) (n : Nat) (k : Nat) (i : Nat) (cs : List PV) (a : List PV) : grow Tryd.prog env codDOrc 1000000 true (bodyCfg Tryd.prog env 19 2 ([AV.mp 0 0, AV.os (Option.some 1) n 1 a, AV.p (PV.ps k 2 cs), sI IntKind.i64 (↑k : Int), sI IntKind.i64 (↑i : Int)]) ([Blk.pc M.pvs, Blk.tok]) 0 66) codDSc atEnd = codDTree M n k i cs a := by kernel_rfl

noncomputable def codEOrc : Orc := orcL noCall noLed [(19, 4), (19, 6)] [(19, 0, 5)] [(19, 15, 0), (19, 15, 1)]
def codESc : Sc := .fin
noncomputable def codETree (M : Mo) (n : Nat) (k : Nat) (i : Nat) (cs : List PV) (a : List PV) : Tree :=
 (.test (decide ((↑i : Int) < (↑k : Int)))
 (.must (inB (↑i : Int) k && true && true)
 (.must (isPs (cs.getD ((↑i : Int).toNat * 2) PV.bad) && (isPs (cs.getD ((↑i : Int).toNat * 2 + 1) PV.bad) && true) && true)
 (.at (bodyCfg Tryd.prog env 19 4 [.mp 0 0, .os (some 1) 1 1 [.ps (psLen (cs.getD ((↑i : Int).toNat * 2) PV.bad)) (psSz (cs.getD ((↑i : Int).toNat * 2) PV.bad)) (psCells (cs.getD ((↑i : Int).toNat * 2) PV.bad))], .p (.ps k 2 cs), sI .i64 (↑k : Int), sI .i64 (IntKind.i64.wrap ((↑i : Int) + 1))] ([.pc M.pvs, .tok]) 0 66))))
 (.at (bodyCfg Tryd.prog env 19 6 [.os none 0 0 [], .p (.ps M.das.length 2 (List.flatMap encDa M.das)), sI .i64 (↑M.das.length : Int), sI .i64 0] ([]) 0 66)))
theorem codE_tree (M : Mo) (n : Nat) (k : Nat) (i : Nat) (cs : List PV) (a : List PV) : grow Tryd.prog env codEOrc 1000000 true (bodyCfg Tryd.prog env 19 4 ([AV.mp 0 0, AV.os Option.none 0 0 [], AV.p (PV.ps k 2 cs), sI IntKind.i64 (↑k : Int), sI IntKind.i64 (↑i : Int)]) ([Blk.pc M.pvs]) 0 66) codESc atEnd = codETree M n k i cs a := by kernel_rfl

noncomputable def codFOrc : Orc := orcL noCall noLed [(19, 4), (19, 6)] [(19, 0, 5)] [(19, 15, 0), (19, 15, 1), (19, 16, 4)]
def codFSc : Sc := .fin
noncomputable def codFTree (M : Mo) (n : Nat) (k : Nat) (i : Nat) (cs : List PV) (a : List PV) : Tree :=
 (.test (decide ((↑i : Int) < (↑k : Int)))
 (.must (inB (↑i : Int) k && true && true)
 (.must (isPs (cs.getD ((↑i : Int).toNat * 2) PV.bad) && (isPs (cs.getD ((↑i : Int).toNat * 2 + 1) PV.bad) && true) && true)
 (.must (((n + 1) * 24).ble lim && (n + 1).ble lim && true)
 (.at (bodyCfg Tryd.prog env 19 4 [.mp 0 0, .os (some 1) (n + 1) 1 (a ++ [.ps (psLen (cs.getD ((↑i : Int).toNat * 2) PV.bad)) (psSz (cs.getD ((↑i : Int).toNat * 2) PV.bad)) (psCells (cs.getD ((↑i : Int).toNat * 2) PV.bad))]), .p (.ps k 2 cs), sI .i64 (↑k : Int), sI .i64 (IntKind.i64.wrap ((↑i : Int) + 1))] ([.pc M.pvs, .tok]) 0 66)))))
 (.at (bodyCfg Tryd.prog env 19 6 [.os (some 0) n 1 a, .p (.ps M.das.length 2 (List.flatMap encDa M.das)), sI .i64 (↑M.das.length : Int), sI .i64 0] ([.tok]) 0 66)))
theorem codF_tree (M : Mo) (n : Nat) (k : Nat) (i : Nat) (cs : List PV) (a : List PV) : grow Tryd.prog env codFOrc 1000000 true (bodyCfg Tryd.prog env 19 4 ([AV.mp 0 0, AV.os (Option.some 1) n 1 a, AV.p (PV.ps k 2 cs), sI IntKind.i64 (↑k : Int), sI IntKind.i64 (↑i : Int)]) ([Blk.pc M.pvs, Blk.tok]) 0 66) codFSc atEnd = codFTree M n k i cs a := by kernel_rfl

noncomputable def codGOrc : Orc := orcL noCall noLed [(19, 6)] [(19, 0, 7)] [(19, 20, 0), (19, 20, 1)]
def codGSc : Sc := .fin
noncomputable def codGTree (n : Nat) (k : Nat) (i : Nat) (cs : List PV) (a : List PV) : Tree :=
 (.test (decide ((↑i : Int) < (↑k : Int)))
 (.must (inB (↑i : Int) k && true && true)
 (.must (isPs (cs.getD ((↑i : Int).toNat * 2) PV.bad) && (isPs (cs.getD ((↑i : Int).toNat * 2 + 1) PV.bad) && true) && true)
 (.at (bodyCfg Tryd.prog env 19 6 [.os (some 0) 1 1 [.ps (psLen (cs.getD ((↑i : Int).toNat * 2) PV.bad)) (psSz (cs.getD ((↑i : Int).toNat * 2) PV.bad)) (psCells (cs.getD ((↑i : Int).toNat * 2) PV.bad))], .p (.ps k 2 cs), sI .i64 (↑k : Int), sI .i64 (IntKind.i64.wrap ((↑i : Int) + 1))] ([.tok]) 0 66))))
 (.out (.ret (.os none 0 0 []) [])))
theorem codG_tree (n : Nat) (k : Nat) (i : Nat) (cs : List PV) (a : List PV) : grow Tryd.prog env codGOrc 1000000 true (bodyCfg Tryd.prog env 19 6 ([AV.os Option.none 0 0 [], AV.p (PV.ps k 2 cs), sI IntKind.i64 (↑k : Int), sI IntKind.i64 (↑i : Int)]) ([]) 0 66) codGSc atEnd = codGTree n k i cs a := by kernel_rfl

noncomputable def codHOrc : Orc := orcL noCall noLed [(19, 6)] [(19, 0, 7)] [(19, 20, 0), (19, 20, 1), (19, 21, 4)]
def codHSc : Sc := .fin
noncomputable def codHTree (n : Nat) (k : Nat) (i : Nat) (cs : List PV) (a : List PV) : Tree :=
 (.test (decide ((↑i : Int) < (↑k : Int)))
 (.must (inB (↑i : Int) k && true && true)
 (.must (isPs (cs.getD ((↑i : Int).toNat * 2) PV.bad) && (isPs (cs.getD ((↑i : Int).toNat * 2 + 1) PV.bad) && true) && true)
 (.must (((n + 1) * 24).ble lim && (n + 1).ble lim && true)
 (.at (bodyCfg Tryd.prog env 19 6 [.os (some 0) (n + 1) 1 (a ++ [.ps (psLen (cs.getD ((↑i : Int).toNat * 2) PV.bad)) (psSz (cs.getD ((↑i : Int).toNat * 2) PV.bad)) (psCells (cs.getD ((↑i : Int).toNat * 2) PV.bad))]), .p (.ps k 2 cs), sI .i64 (↑k : Int), sI .i64 (IntKind.i64.wrap ((↑i : Int) + 1))] ([.tok]) 0 66)))))
 (.out (.ret (.os (some 0) n 1 a) [.tok])))
theorem codH_tree (n : Nat) (k : Nat) (i : Nat) (cs : List PV) (a : List PV) : grow Tryd.prog env codHOrc 1000000 true (bodyCfg Tryd.prog env 19 6 ([AV.os (Option.some 0) n 1 a, AV.p (PV.ps k 2 cs), sI IntKind.i64 (↑k : Int), sI IntKind.i64 (↑i : Int)]) ([Blk.tok]) 0 66) codHSc atEnd = codHTree n k i cs a := by kernel_rfl

structure _root_.Go.Am.Mo.fit (M : Mo) : Prop where
  tys : M.tys.length ≤ 1000000
  ims : M.ims.length ≤ 1000000
  fns : M.fns.length ≤ 1000000
  tas : M.tas.length ≤ 1000000
  mes : M.mes.length ≤ 1000000
  gls : M.gls.length ≤ 1000000
  exs : M.exs.length ≤ 1000000
  els : M.els.length ≤ 1000000
  das : M.das.length ≤ 1000000

theorem limM : (1000000000 : Nat) ≤ lim := Nat.le_of_ble_eq_true (by kernel_rfl)

theorem app_all {α : Type} {l : List α} {f : α → List PV} {D : List PV → Nat → Cfg} {K : List PV → Prop} {o : Out} {B : Nat}
    (step : ∀ (a : List PV) (i : Nat) (x : α), l[i]? = some x → (a ++ f x).length ≤ B → Am.Good Tryd.prog env (D (a ++ f x) (i + 1)) o → Am.Good Tryd.prog env (D a i) o)
    (fin : ∀ a : List PV, K a → Am.Good Tryd.prog env (D a l.length) o) :
    ∀ (r i : Nat) (a : List PV), i + r = l.length → (a ++ (l.drop i).flatMap f).length ≤ B → K (a ++ (l.drop i).flatMap f) → Am.Good Tryd.prog env (D a i) o := by
  intro r
  induction r with
  | zero =>
    intro i a hi hB h
    obtain rfl : i = l.length := by omega
    rw [List.drop_length, List.flatMap_nil, List.append_nil] at h
    exact fin a h
  | succ r ih =>
    intro i a hi hB h
    have hl : i < l.length := by omega
    rw [List.drop_eq_getElem_cons hl, List.flatMap_cons, ← List.append_assoc] at h hB
    refine step a i l[i] (List.getElem?_eq_getElem hl) ?_ (ih (i + 1) _ (by omega) hB h)
    rw [List.length_append] at hB
    omega

def outA (a : List PV) : Out := if a = [] then .ret (.os none 0 0 []) [] else .ret (.os (some 0) a.length 1 a) [.tok]

def nmI (x : Im) : List PV := [.sc (.string x.mo), .sc (.string x.nm)]
def nmE (x : Ex) : List PV := [.sc (.string x.nm)]
def cdF (x : Fu) : List PV := [pL x.l]
def cdG (x : Gl) : List PV := [pL x.l]
def cdE (x : El) : List PV := [pL x.l]
def cdD (x : Da) : List PV := [pL x.l]

noncomputable def nmH0 (M : Mo) (a : List PV) (i : Nat) : Cfg :=
  if a = [] then bodyCfg Tryd.prog env 26 0 [.mp 0 0, .os none 0 0 [], .p (.ps M.ims.length 3 (M.ims.flatMap encIm)), sI .i64 M.ims.length, sI .i64 i] [.pc M.pvs] 0 37
  else bodyCfg Tryd.prog env 26 0 [.mp 0 0, .os (some 1) a.length 1 a, .p (.ps M.ims.length 3 (M.ims.flatMap encIm)), sI .i64 M.ims.length, sI .i64 i] [.pc M.pvs, .tok] 0 37

noncomputable def nmH2 (M : Mo) (a : List PV) (i : Nat) : Cfg :=
  if a = [] then bodyCfg Tryd.prog env 26 2 [.os none 0 0 [], .p (.ps M.exs.length 3 (M.exs.flatMap encEx)), sI .i64 M.exs.length, sI .i64 i] [] 0 37
  else bodyCfg Tryd.prog env 26 2 [.os (some 0) a.length 1 a, .p (.ps M.exs.length 3 (M.exs.flatMap encEx)), sI .i64 M.exs.length, sI .i64 i] [.tok] 0 37

theorem nmH0_step (M : Mo) (hM : M.fit) (o : Out) (a : List PV) (i : Nat) (x : Im) (hx : M.ims[i]? = some x) (hB : (a ++ nmI x).length ≤ 10000000) (h : Am.Good Tryd.prog env (nmH0 M (a ++ nmI x) (i + 1)) o) : Am.Good Tryd.prog env (nmH0 M a i) o := by
  have hi : i < M.ims.length := (List.getElem?_eq_some_iff.1 hx).1
  have c := flat_at (z := 3) (enc := encIm) (fun _ => rfl) hx
  have c0 : (M.ims.flatMap encIm).getD (i * 3) .bad = .sc (.string x.mo) := c 0 (by decide)
  have c1 : (M.ims.flatMap encIm).getD (i * 3 + 1) .bad = .sc (.string x.nm) := c 1 (by decide)
  have c2 : (M.ims.flatMap encIm).getD (i * 3 + 1 + 1) .bad = .sc (.int .i64 x.ty) := c 2 (by decide)
  have hl := hM.ims
  have hL := limM
  have w : IntKind.i64.wrap ((i : Int) + 1) = ((i + 1 : Nat) : Int) := by rw [i64In (by omega) (by omega)]; rfl
  have hd : decide ((i : Int) < (M.ims.length : Int)) = true := by simp; omega
  unfold nmH0 at h ⊢
  by_cases e : a = []
  · subst e
    rw [if_neg (by simp [nmI]), List.nil_append] at h
    rw [if_pos rfl]
    refine good_of_tree names (nmzA_tree M 0 M.ims.length i (M.ims.flatMap encIm) []) ?_
    simp only [nmzATree, Tree.ok, isStr, isInt, isPs, isBool, pvStr, pvInt, pvBool, psLen, psSz, psCells, inB, Int.toNat_natCast, c0, c1, c2, hd, w]
    exact ⟨fun _ => ⟨by first | (simp; done) | (simp; omega), rfl, h⟩, fun q => by cases q⟩
  · rw [if_neg (by simp [e])] at h
    rw [if_neg e]
    refine good_of_tree names (nmzB_tree M a.length M.ims.length i (M.ims.flatMap encIm) a) ?_
    rw [List.length_append] at h hB
    have hB : a.length + 2 ≤ 10000000 := hB
    simp only [nmzBTree, Tree.ok, isStr, isInt, isPs, isBool, pvStr, pvInt, pvBool, psLen, psSz, psCells, inB, Int.toNat_natCast, c0, c1, c2, hd, w]
    exact ⟨fun _ => ⟨by first | (simp; done) | (simp; omega), rfl, by simp only [Bool.and_true, Bool.and_eq_true, Nat.ble_eq]; omega, h⟩, fun q => by cases q⟩

theorem nmH0_end (M : Mo) (o : Out) (a : List PV) (h : Am.Good Tryd.prog env (nmH2 M a 0) o) : Am.Good Tryd.prog env (nmH0 M a M.ims.length) o := by
  have hd : decide ((M.ims.length : Int) < (M.ims.length : Int)) = false := by simp
  unfold nmH2 at h
  unfold nmH0
  by_cases e : a = []
  · subst e
    rw [if_pos rfl] at h ⊢
    refine good_of_tree names (nmzA_tree M 0 M.ims.length M.ims.length (M.ims.flatMap encIm) []) ?_
    simp only [nmzATree, Tree.ok, hd]
    exact ⟨fun q => (by cases q), fun _ => h⟩
  · rw [if_neg e] at h ⊢
    refine good_of_tree names (nmzB_tree M a.length M.ims.length M.ims.length (M.ims.flatMap encIm) a) ?_
    simp only [nmzBTree, Tree.ok, hd]
    exact ⟨fun q => (by cases q), fun _ => h⟩

theorem nmH2_step (M : Mo) (hM : M.fit) (o : Out) (a : List PV) (i : Nat) (x : Ex) (hx : M.exs[i]? = some x) (hB : (a ++ nmE x).length ≤ 10000000) (h : Am.Good Tryd.prog env (nmH2 M (a ++ nmE x) (i + 1)) o) : Am.Good Tryd.prog env (nmH2 M a i) o := by
  have hi : i < M.exs.length := (List.getElem?_eq_some_iff.1 hx).1
  have c := flat_at (z := 3) (enc := encEx) (fun _ => rfl) hx
  have c0 : (M.exs.flatMap encEx).getD (i * 3) .bad = .sc (.string x.nm) := c 0 (by decide)
  have c1 : (M.exs.flatMap encEx).getD (i * 3 + 1) .bad = .sc (.int .i64 x.kind) := c 1 (by decide)
  have c2 : (M.exs.flatMap encEx).getD (i * 3 + 1 + 1) .bad = .sc (.int .u32 x.ix) := c 2 (by decide)
  have hl := hM.exs
  have hL := limM
  have w : IntKind.i64.wrap ((i : Int) + 1) = ((i + 1 : Nat) : Int) := by rw [i64In (by omega) (by omega)]; rfl
  have hd : decide ((i : Int) < (M.exs.length : Int)) = true := by simp; omega
  unfold nmH2 at h ⊢
  by_cases e : a = []
  · subst e
    rw [if_neg (by simp [nmE]), List.nil_append] at h
    rw [if_pos rfl]
    refine good_of_tree names (nmzC_tree 0 M.exs.length i (M.exs.flatMap encEx) []) ?_
    simp only [nmzCTree, Tree.ok, isStr, isInt, isPs, isBool, pvStr, pvInt, pvBool, psLen, psSz, psCells, inB, Int.toNat_natCast, c0, c1, c2, hd, w]
    exact ⟨fun _ => ⟨by first | (simp; done) | (simp; omega), rfl, h⟩, fun q => by cases q⟩
  · rw [if_neg (by simp [e])] at h
    rw [if_neg e]
    refine good_of_tree names (nmzD_tree a.length M.exs.length i (M.exs.flatMap encEx) a) ?_
    rw [List.length_append] at h hB
    have hB : a.length + 1 ≤ 10000000 := hB
    simp only [nmzDTree, Tree.ok, isStr, isInt, isPs, isBool, pvStr, pvInt, pvBool, psLen, psSz, psCells, inB, Int.toNat_natCast, c0, c1, c2, hd, w]
    exact ⟨fun _ => ⟨by first | (simp; done) | (simp; omega), rfl, by simp only [Bool.and_true, Bool.and_eq_true, Nat.ble_eq]; omega, h⟩, fun q => by cases q⟩

theorem nmH2_end (M : Mo) (o : Out) (a : List PV) (h : outA a = o) : Am.Good Tryd.prog env (nmH2 M a M.exs.length) o := by
  have hd : decide ((M.exs.length : Int) < (M.exs.length : Int)) = false := by simp
  unfold outA at h
  unfold nmH2
  by_cases e : a = []
  · subst e
    rw [if_pos rfl] at h ⊢
    refine good_of_tree names (nmzC_tree 0 M.exs.length M.exs.length (M.exs.flatMap encEx) []) ?_
    simp only [nmzCTree, Tree.ok, hd]
    exact ⟨fun q => (by cases q), fun _ => h⟩
  · rw [if_neg e] at h ⊢
    refine good_of_tree names (nmzD_tree a.length M.exs.length M.exs.length (M.exs.flatMap encEx) a) ?_
    simp only [nmzDTree, Tree.ok, hd]
    exact ⟨fun q => (by cases q), fun _ => h⟩

noncomputable def cdH0 (M : Mo) (a : List PV) (i : Nat) : Cfg :=
  if a = [] then bodyCfg Tryd.prog env 19 0 [.mp 0 0, .os none 0 0 [], .p (.ps M.fns.length 3 (M.fns.flatMap encFu)), sI .i64 M.fns.length, sI .i64 i] [.pc M.pvs] 0 66
  else bodyCfg Tryd.prog env 19 0 [.mp 0 0, .os (some 1) a.length 1 a, .p (.ps M.fns.length 3 (M.fns.flatMap encFu)), sI .i64 M.fns.length, sI .i64 i] [.pc M.pvs, .tok] 0 66

noncomputable def cdH2 (M : Mo) (a : List PV) (i : Nat) : Cfg :=
  if a = [] then bodyCfg Tryd.prog env 19 2 [.mp 0 0, .os none 0 0 [], .p (.ps M.gls.length 2 (M.gls.flatMap encGl)), sI .i64 M.gls.length, sI .i64 i] [.pc M.pvs] 0 66
  else bodyCfg Tryd.prog env 19 2 [.mp 0 0, .os (some 1) a.length 1 a, .p (.ps M.gls.length 2 (M.gls.flatMap encGl)), sI .i64 M.gls.length, sI .i64 i] [.pc M.pvs, .tok] 0 66

noncomputable def cdH4 (M : Mo) (a : List PV) (i : Nat) : Cfg :=
  if a = [] then bodyCfg Tryd.prog env 19 4 [.mp 0 0, .os none 0 0 [], .p (.ps M.els.length 2 (M.els.flatMap encEl)), sI .i64 M.els.length, sI .i64 i] [.pc M.pvs] 0 66
  else bodyCfg Tryd.prog env 19 4 [.mp 0 0, .os (some 1) a.length 1 a, .p (.ps M.els.length 2 (M.els.flatMap encEl)), sI .i64 M.els.length, sI .i64 i] [.pc M.pvs, .tok] 0 66

noncomputable def cdH6 (M : Mo) (a : List PV) (i : Nat) : Cfg :=
  if a = [] then bodyCfg Tryd.prog env 19 6 [.os none 0 0 [], .p (.ps M.das.length 2 (M.das.flatMap encDa)), sI .i64 M.das.length, sI .i64 i] [] 0 66
  else bodyCfg Tryd.prog env 19 6 [.os (some 0) a.length 1 a, .p (.ps M.das.length 2 (M.das.flatMap encDa)), sI .i64 M.das.length, sI .i64 i] [.tok] 0 66

theorem cdH0_step (M : Mo) (hM : M.fit) (o : Out) (a : List PV) (i : Nat) (x : Fu) (hx : M.fns[i]? = some x) (hB : (a ++ cdF x).length ≤ 10000000) (h : Am.Good Tryd.prog env (cdH0 M (a ++ cdF x) (i + 1)) o) : Am.Good Tryd.prog env (cdH0 M a i) o := by
  have hi : i < M.fns.length := (List.getElem?_eq_some_iff.1 hx).1
  have c := flat_at (z := 3) (enc := encFu) (fun _ => rfl) hx
  have c0 : (M.fns.flatMap encFu).getD (i * 3) .bad = .sc (.int .i64 x.ty) := c 0 (by decide)
  have c1 : (M.fns.flatMap encFu).getD (i * 3 + 1) .bad = .sc (.int .i64 x.lo) := c 1 (by decide)
  have c2 : (M.fns.flatMap encFu).getD (i * 3 + 1 + 1) .bad = pL x.l := c 2 (by decide)
  have hl := hM.fns
  have hL := limM
  have w : IntKind.i64.wrap ((i : Int) + 1) = ((i + 1 : Nat) : Int) := by rw [i64In (by omega) (by omega)]; rfl
  have hd : decide ((i : Int) < (M.fns.length : Int)) = true := by simp; omega
  unfold cdH0 at h ⊢
  by_cases e : a = []
  · subst e
    rw [if_neg (by simp [cdF]), List.nil_append] at h
    rw [if_pos rfl]
    refine good_of_tree names (codA_tree M 0 M.fns.length i (M.fns.flatMap encFu) []) ?_
    simp only [codATree, Tree.ok, isStr, isInt, isPs, isBool, pvStr, pvInt, pvBool, psLen, psSz, psCells, inB, Int.toNat_natCast, c0, c1, c2, hd, w]
    exact ⟨fun _ => ⟨by first | (simp; done) | (simp; omega), rfl, h⟩, fun q => by cases q⟩
  · rw [if_neg (by simp [e])] at h
    rw [if_neg e]
    refine good_of_tree names (codB_tree M a.length M.fns.length i (M.fns.flatMap encFu) a) ?_
    rw [List.length_append] at h hB
    have hB : a.length + 1 ≤ 10000000 := hB
    simp only [codBTree, Tree.ok, isStr, isInt, isPs, isBool, pvStr, pvInt, pvBool, psLen, psSz, psCells, inB, Int.toNat_natCast, c0, c1, c2, hd, w]
    exact ⟨fun _ => ⟨by first | (simp; done) | (simp; omega), rfl, by simp only [Bool.and_true, Bool.and_eq_true, Nat.ble_eq]; omega, h⟩, fun q => by cases q⟩

theorem cdH0_end (M : Mo) (o : Out) (a : List PV) (h : Am.Good Tryd.prog env (cdH2 M a 0) o) : Am.Good Tryd.prog env (cdH0 M a M.fns.length) o := by
  have hd : decide ((M.fns.length : Int) < (M.fns.length : Int)) = false := by simp
  unfold cdH2 at h
  unfold cdH0
  by_cases e : a = []
  · subst e
    rw [if_pos rfl] at h ⊢
    refine good_of_tree names (codA_tree M 0 M.fns.length M.fns.length (M.fns.flatMap encFu) []) ?_
    simp only [codATree, Tree.ok, hd]
    exact ⟨fun q => (by cases q), fun _ => h⟩
  · rw [if_neg e] at h ⊢
    refine good_of_tree names (codB_tree M a.length M.fns.length M.fns.length (M.fns.flatMap encFu) a) ?_
    simp only [codBTree, Tree.ok, hd]
    exact ⟨fun q => (by cases q), fun _ => h⟩

theorem cdH2_step (M : Mo) (hM : M.fit) (o : Out) (a : List PV) (i : Nat) (x : Gl) (hx : M.gls[i]? = some x) (hB : (a ++ cdG x).length ≤ 10000000) (h : Am.Good Tryd.prog env (cdH2 M (a ++ cdG x) (i + 1)) o) : Am.Good Tryd.prog env (cdH2 M a i) o := by
  have hi : i < M.gls.length := (List.getElem?_eq_some_iff.1 hx).1
  have c := flat_at (z := 2) (enc := encGl) (fun _ => rfl) hx
  have c0 : (M.gls.flatMap encGl).getD (i * 2) .bad = .sc (.bool x.mu) := c 0 (by decide)
  have c1 : (M.gls.flatMap encGl).getD (i * 2 + 1) .bad = pL x.l := c 1 (by decide)
  have hl := hM.gls
  have hL := limM
  have w : IntKind.i64.wrap ((i : Int) + 1) = ((i + 1 : Nat) : Int) := by rw [i64In (by omega) (by omega)]; rfl
  have hd : decide ((i : Int) < (M.gls.length : Int)) = true := by simp; omega
  unfold cdH2 at h ⊢
  by_cases e : a = []
  · subst e
    rw [if_neg (by simp [cdG]), List.nil_append] at h
    rw [if_pos rfl]
    refine good_of_tree names (codC_tree M 0 M.gls.length i (M.gls.flatMap encGl) []) ?_
    simp only [codCTree, Tree.ok, isStr, isInt, isPs, isBool, pvStr, pvInt, pvBool, psLen, psSz, psCells, inB, Int.toNat_natCast, c0, c1, hd, w]
    exact ⟨fun _ => ⟨by first | (simp; done) | (simp; omega), rfl, h⟩, fun q => by cases q⟩
  · rw [if_neg (by simp [e])] at h
    rw [if_neg e]
    refine good_of_tree names (codD_tree M a.length M.gls.length i (M.gls.flatMap encGl) a) ?_
    rw [List.length_append] at h hB
    have hB : a.length + 1 ≤ 10000000 := hB
    simp only [codDTree, Tree.ok, isStr, isInt, isPs, isBool, pvStr, pvInt, pvBool, psLen, psSz, psCells, inB, Int.toNat_natCast, c0, c1, hd, w]
    exact ⟨fun _ => ⟨by first | (simp; done) | (simp; omega), rfl, by simp only [Bool.and_true, Bool.and_eq_true, Nat.ble_eq]; omega, h⟩, fun q => by cases q⟩

theorem cdH2_end (M : Mo) (o : Out) (a : List PV) (h : Am.Good Tryd.prog env (cdH4 M a 0) o) : Am.Good Tryd.prog env (cdH2 M a M.gls.length) o := by
  have hd : decide ((M.gls.length : Int) < (M.gls.length : Int)) = false := by simp
  unfold cdH4 at h
  unfold cdH2
  by_cases e : a = []
  · subst e
    rw [if_pos rfl] at h ⊢
    refine good_of_tree names (codC_tree M 0 M.gls.length M.gls.length (M.gls.flatMap encGl) []) ?_
    simp only [codCTree, Tree.ok, hd]
    exact ⟨fun q => (by cases q), fun _ => h⟩
  · rw [if_neg e] at h ⊢
    refine good_of_tree names (codD_tree M a.length M.gls.length M.gls.length (M.gls.flatMap encGl) a) ?_
    simp only [codDTree, Tree.ok, hd]
    exact ⟨fun q => (by cases q), fun _ => h⟩

theorem cdH4_step (M : Mo) (hM : M.fit) (o : Out) (a : List PV) (i : Nat) (x : El) (hx : M.els[i]? = some x) (hB : (a ++ cdE x).length ≤ 10000000) (h : Am.Good Tryd.prog env (cdH4 M (a ++ cdE x) (i + 1)) o) : Am.Good Tryd.prog env (cdH4 M a i) o := by
  have hi : i < M.els.length := (List.getElem?_eq_some_iff.1 hx).1
  have c := flat_at (z := 2) (enc := encEl) (fun _ => rfl) hx
  have c0 : (M.els.flatMap encEl).getD (i * 2) .bad = pL x.l := c 0 (by decide)
  have c1 : (M.els.flatMap encEl).getD (i * 2 + 1) .bad = pT .u32 x.fs := c 1 (by decide)
  have hl := hM.els
  have hL := limM
  have w : IntKind.i64.wrap ((i : Int) + 1) = ((i + 1 : Nat) : Int) := by rw [i64In (by omega) (by omega)]; rfl
  have hd : decide ((i : Int) < (M.els.length : Int)) = true := by simp; omega
  unfold cdH4 at h ⊢
  by_cases e : a = []
  · subst e
    rw [if_neg (by simp [cdE]), List.nil_append] at h
    rw [if_pos rfl]
    refine good_of_tree names (codE_tree M 0 M.els.length i (M.els.flatMap encEl) []) ?_
    simp only [codETree, Tree.ok, isStr, isInt, isPs, isBool, pvStr, pvInt, pvBool, psLen, psSz, psCells, inB, Int.toNat_natCast, c0, c1, hd, w]
    exact ⟨fun _ => ⟨by first | (simp; done) | (simp; omega), rfl, h⟩, fun q => by cases q⟩
  · rw [if_neg (by simp [e])] at h
    rw [if_neg e]
    refine good_of_tree names (codF_tree M a.length M.els.length i (M.els.flatMap encEl) a) ?_
    rw [List.length_append] at h hB
    have hB : a.length + 1 ≤ 10000000 := hB
    simp only [codFTree, Tree.ok, isStr, isInt, isPs, isBool, pvStr, pvInt, pvBool, psLen, psSz, psCells, inB, Int.toNat_natCast, c0, c1, hd, w]
    exact ⟨fun _ => ⟨by first | (simp; done) | (simp; omega), rfl, by simp only [Bool.and_true, Bool.and_eq_true, Nat.ble_eq]; omega, h⟩, fun q => by cases q⟩

theorem cdH4_end (M : Mo) (o : Out) (a : List PV) (h : Am.Good Tryd.prog env (cdH6 M a 0) o) : Am.Good Tryd.prog env (cdH4 M a M.els.length) o := by
  have hd : decide ((M.els.length : Int) < (M.els.length : Int)) = false := by simp
  unfold cdH6 at h
  unfold cdH4
  by_cases e : a = []
  · subst e
    rw [if_pos rfl] at h ⊢
    refine good_of_tree names (codE_tree M 0 M.els.length M.els.length (M.els.flatMap encEl) []) ?_
    simp only [codETree, Tree.ok, hd]
    exact ⟨fun q => (by cases q), fun _ => h⟩
  · rw [if_neg e] at h ⊢
    refine good_of_tree names (codF_tree M a.length M.els.length M.els.length (M.els.flatMap encEl) a) ?_
    simp only [codFTree, Tree.ok, hd]
    exact ⟨fun q => (by cases q), fun _ => h⟩

theorem cdH6_step (M : Mo) (hM : M.fit) (o : Out) (a : List PV) (i : Nat) (x : Da) (hx : M.das[i]? = some x) (hB : (a ++ cdD x).length ≤ 10000000) (h : Am.Good Tryd.prog env (cdH6 M (a ++ cdD x) (i + 1)) o) : Am.Good Tryd.prog env (cdH6 M a i) o := by
  have hi : i < M.das.length := (List.getElem?_eq_some_iff.1 hx).1
  have c := flat_at (z := 2) (enc := encDa) (fun _ => rfl) hx
  have c0 : (M.das.flatMap encDa).getD (i * 2) .bad = pL x.l := c 0 (by decide)
  have c1 : (M.das.flatMap encDa).getD (i * 2 + 1) .bad = pT .u8 x.bs := c 1 (by decide)
  have hl := hM.das
  have hL := limM
  have w : IntKind.i64.wrap ((i : Int) + 1) = ((i + 1 : Nat) : Int) := by rw [i64In (by omega) (by omega)]; rfl
  have hd : decide ((i : Int) < (M.das.length : Int)) = true := by simp; omega
  unfold cdH6 at h ⊢
  by_cases e : a = []
  · subst e
    rw [if_neg (by simp [cdD]), List.nil_append] at h
    rw [if_pos rfl]
    refine good_of_tree names (codG_tree 0 M.das.length i (M.das.flatMap encDa) []) ?_
    simp only [codGTree, Tree.ok, isStr, isInt, isPs, isBool, pvStr, pvInt, pvBool, psLen, psSz, psCells, inB, Int.toNat_natCast, c0, c1, hd, w]
    exact ⟨fun _ => ⟨by first | (simp; done) | (simp; omega), rfl, h⟩, fun q => by cases q⟩
  · rw [if_neg (by simp [e])] at h
    rw [if_neg e]
    refine good_of_tree names (codH_tree a.length M.das.length i (M.das.flatMap encDa) a) ?_
    rw [List.length_append] at h hB
    have hB : a.length + 1 ≤ 10000000 := hB
    simp only [codHTree, Tree.ok, isStr, isInt, isPs, isBool, pvStr, pvInt, pvBool, psLen, psSz, psCells, inB, Int.toNat_natCast, c0, c1, hd, w]
    exact ⟨fun _ => ⟨by first | (simp; done) | (simp; omega), rfl, by simp only [Bool.and_true, Bool.and_eq_true, Nat.ble_eq]; omega, h⟩, fun q => by cases q⟩

theorem cdH6_end (M : Mo) (o : Out) (a : List PV) (h : outA a = o) : Am.Good Tryd.prog env (cdH6 M a M.das.length) o := by
  have hd : decide ((M.das.length : Int) < (M.das.length : Int)) = false := by simp
  unfold outA at h
  unfold cdH6
  by_cases e : a = []
  · subst e
    rw [if_pos rfl] at h ⊢
    refine good_of_tree names (codG_tree 0 M.das.length M.das.length (M.das.flatMap encDa) []) ?_
    simp only [codGTree, Tree.ok, hd]
    exact ⟨fun q => (by cases q), fun _ => h⟩
  · rw [if_neg e] at h ⊢
    refine good_of_tree names (codH_tree a.length M.das.length M.das.length (M.das.flatMap encDa) a) ?_
    simp only [codHTree, Tree.ok, hd]
    exact ⟨fun q => (by cases q), fun _ => h⟩

theorem flat_one {α : Type} {f : α → List PV} {n : Nat} (h : ∀ x, (f x).length = n) (l : List α) : (l.flatMap f).length = l.length * n := flat_len h l

theorem does_outA {f : FuncId} {args : List AV} {a : List PV} (h : ∀ v m', outA a = .ret v m' → Does Tryd.prog env f args [] v m') : Does Tryd.prog env f args [] (.p (.ps a.length 1 a)) [] := by
  by_cases e : a = []
  · subst e
    exact Does.nil (h _ _ (if_pos rfl)) (Nat.le_refl 1)
  · exact Does.pure (h _ _ (if_neg e))

def nmsP (M : Mo) : List PV := M.ims.flatMap nmI ++ M.exs.flatMap nmE
def cdsP (M : Mo) : List PV := M.fns.flatMap cdF ++ M.gls.flatMap cdG ++ M.els.flatMap cdE ++ M.das.flatMap cdD

theorem names_does (M : Mo) (hM : M.fit) : Does Tryd.prog env 26 [.agg (M.pvs.map .p)] [] (.p (.ps (nmsP M).length 1 (nmsP M))) [] := by
  have h1 := hM.ims
  have h2 := hM.exs
  have l1 := flat_one (f := nmI) (n := 2) (fun _ => rfl) M.ims
  have l2 := flat_one (f := nmE) (n := 1) (fun _ => rfl) M.exs
  refine does_outA fun v m' e => ?_
  refine does_of_tree names (nmz_tree M) ?_
  have k2 := app_all (B := 10000000) (nmH2_step M hM (.ret v m')) (nmH2_end M _) M.exs.length 0 (M.ims.flatMap nmI) (by omega) (by simp only [List.drop_zero, List.length_append]; omega) e
  have k1 := app_all (B := 10000000) (nmH0_step M hM (.ret v m')) (nmH0_end M _) M.ims.length 0 [] (by omega) (by simp only [List.drop_zero, List.length_append, List.length_nil]; omega) k2
  unfold nmH0 at k1
  rw [if_pos rfl] at k1
  exact k1

theorem codes_does (M : Mo) (hM : M.fit) : Does Tryd.prog env 19 [.agg (M.pvs.map .p)] [] (.p (.ps (cdsP M).length 1 (cdsP M))) [] := by
  have h1 := hM.fns
  have h2 := hM.gls
  have h3 := hM.els
  have h4 := hM.das
  have l1 := flat_one (f := cdF) (n := 1) (fun _ => rfl) M.fns
  have l2 := flat_one (f := cdG) (n := 1) (fun _ => rfl) M.gls
  have l3 := flat_one (f := cdE) (n := 1) (fun _ => rfl) M.els
  have l4 := flat_one (f := cdD) (n := 1) (fun _ => rfl) M.das
  refine does_outA fun v m' e => ?_
  refine does_of_tree names (cod_tree M) ?_
  have k4 := app_all (B := 10000000) (cdH6_step M hM (.ret v m')) (cdH6_end M _) M.das.length 0 (M.fns.flatMap cdF ++ M.gls.flatMap cdG ++ M.els.flatMap cdE) (by omega) (by simp only [List.drop_zero, List.length_append]; omega) e
  have k3 := app_all (B := 10000000) (cdH4_step M hM (.ret v m')) (cdH4_end M _) M.els.length 0 (M.fns.flatMap cdF ++ M.gls.flatMap cdG) (by omega) (by simp only [List.drop_zero, List.length_append]; omega) k4
  have k2 := app_all (B := 10000000) (cdH2_step M hM (.ret v m')) (cdH2_end M _) M.gls.length 0 (M.fns.flatMap cdF) (by omega) (by simp only [List.drop_zero, List.length_append]; omega) k3
  have k1 := app_all (B := 10000000) (cdH0_step M hM (.ret v m')) (cdH0_end M _) M.fns.length 0 [] (by omega) (by simp only [List.drop_zero, List.length_append, List.length_nil]; omega) k2
  unfold cdH0 at k1
  rw [if_pos rfl] at k1
  exact k1

end Go.Proofs.YtdmmllcjgjmbbaaDoor.N
end

section
namespace Go.Proofs.YtdmmllcjgjmbbaaDoor.N
open Go Go.Am

def Nmc0 : Call' := ⟨60, [.p (.sc (.string ⟨#[101, 113, 122, 32, 101, 113, 32, 110, 101, 32, 108, 116, 95, 115, 32, 108, 116, 95, 117, 32, 103, 116, 95, 115, 32, 103, 116, 95, 117, 32, 108, 101, 95, 115, 32, 108, 101, 95, 117, 32, 103, 101, 95, 115, 32, 103, 101, 95, 117]⟩))], [], .p (.ps 11 1 [.sc (.string ⟨#[101, 113, 122]⟩), .sc (.string ⟨#[101, 113]⟩), .sc (.string ⟨#[110, 101]⟩), .sc (.string ⟨#[108, 116, 95, 115]⟩), .sc (.string ⟨#[108, 116, 95, 117]⟩), .sc (.string ⟨#[103, 116, 95, 115]⟩), .sc (.string ⟨#[103, 116, 95, 117]⟩), .sc (.string ⟨#[108, 101, 95, 115]⟩), .sc (.string ⟨#[108, 101, 95, 117]⟩), .sc (.string ⟨#[103, 101, 95, 115]⟩), .sc (.string ⟨#[103, 101, 95, 117]⟩)]), []⟩
theorem Nmd0 : Does Tryd.prog env Nmc0.g Nmc0.args Nmc0.m Nmc0.v Nmc0.m' := does_fast names (K := []) calls_nil (n := 10000000) (by kernel_rfl)
def NmK1 : List Call' := Nmc0 :: []
theorem NmK1ok : Calls' Tryd.prog env NmK1 := calls_cons Nmd0 calls_nil

def Nmc1 : Call' := ⟨60, [.p (.sc (.string ⟨#[99, 108, 122, 32, 99, 116, 122, 32, 112, 111, 112, 99, 110, 116, 32, 97, 100, 100, 32, 115, 117, 98, 32, 109, 117, 108, 32, 100, 105, 118, 95, 115, 32, 100, 105, 118, 95, 117, 32, 114, 101, 109, 95, 115, 32, 114, 101, 109, 95, 117, 32, 97, 110, 100, 32, 111, 114, 32, 120, 111, 114, 32, 115, 104, 108, 32, 115, 104, 114, 95, 115, 32, 115, 104, 114, 95, 117, 32, 114, 111, 116, 108, 32, 114, 111, 116, 114]⟩))], [], .p (.ps 18 1 [.sc (.string ⟨#[99, 108, 122]⟩), .sc (.string ⟨#[99, 116, 122]⟩), .sc (.string ⟨#[112, 111, 112, 99, 110, 116]⟩), .sc (.string ⟨#[97, 100, 100]⟩), .sc (.string ⟨#[115, 117, 98]⟩), .sc (.string ⟨#[109, 117, 108]⟩), .sc (.string ⟨#[100, 105, 118, 95, 115]⟩), .sc (.string ⟨#[100, 105, 118, 95, 117]⟩), .sc (.string ⟨#[114, 101, 109, 95, 115]⟩), .sc (.string ⟨#[114, 101, 109, 95, 117]⟩), .sc (.string ⟨#[97, 110, 100]⟩), .sc (.string ⟨#[111, 114]⟩), .sc (.string ⟨#[120, 111, 114]⟩), .sc (.string ⟨#[115, 104, 108]⟩), .sc (.string ⟨#[115, 104, 114, 95, 115]⟩), .sc (.string ⟨#[115, 104, 114, 95, 117]⟩), .sc (.string ⟨#[114, 111, 116, 108]⟩), .sc (.string ⟨#[114, 111, 116, 114]⟩)]), []⟩
theorem Nmd1 : Does Tryd.prog env Nmc1.g Nmc1.args Nmc1.m Nmc1.v Nmc1.m' := does_fast names (K := NmK1) NmK1ok (n := 10000000) (by kernel_rfl)
def NmK2 : List Call' := Nmc1 :: NmK1
theorem NmK2ok : Calls' Tryd.prog env NmK2 := calls_cons Nmd1 NmK1ok

def nmL : List ByteArray := [⟨#[117, 110, 114, 101, 97, 99, 104, 97, 98, 108, 101]⟩, ⟨#[110, 111, 112]⟩, ⟨#[98, 108, 111, 99, 107]⟩, ⟨#[108, 111, 111, 112]⟩, ⟨#[105, 102]⟩, ⟨#[]⟩, ⟨#[]⟩, ⟨#[]⟩, ⟨#[]⟩, ⟨#[]⟩, ⟨#[]⟩, ⟨#[]⟩, ⟨#[98, 114]⟩, ⟨#[98, 114, 95, 105, 102]⟩, ⟨#[98, 114, 95, 116, 97, 98, 108, 101]⟩, ⟨#[114, 101, 116, 117, 114, 110]⟩, ⟨#[99, 97, 108, 108]⟩, ⟨#[99, 97, 108, 108, 95, 105, 110, 100, 105, 114, 101, 99, 116]⟩, ⟨#[]⟩, ⟨#[]⟩, ⟨#[]⟩, ⟨#[]⟩, ⟨#[]⟩, ⟨#[]⟩, ⟨#[]⟩, ⟨#[]⟩, ⟨#[100, 114, 111, 112]⟩, ⟨#[115, 101, 108, 101, 99, 116]⟩, ⟨#[]⟩, ⟨#[]⟩, ⟨#[]⟩, ⟨#[]⟩, ⟨#[108, 111, 99, 97, 108, 46, 103, 101, 116]⟩, ⟨#[108, 111, 99, 97, 108, 46, 115, 101, 116]⟩, ⟨#[108, 111, 99, 97, 108, 46, 116, 101, 101]⟩, ⟨#[103, 108, 111, 98, 97, 108, 46, 103, 101, 116]⟩, ⟨#[103, 108, 111, 98, 97, 108, 46, 115, 101, 116]⟩, ⟨#[]⟩, ⟨#[]⟩, ⟨#[]⟩, ⟨#[105, 51, 50, 46, 108, 111, 97, 100]⟩, ⟨#[]⟩, ⟨#[]⟩, ⟨#[]⟩, ⟨#[105, 51, 50, 46, 108, 111, 97, 100, 56, 95, 115]⟩, ⟨#[105, 51, 50, 46, 108, 111, 97, 100, 56, 95, 117]⟩, ⟨#[105, 51, 50, 46, 108, 111, 97, 100, 49, 54, 95, 115]⟩, ⟨#[105, 51, 50, 46, 108, 111, 97, 100, 49, 54, 95, 117]⟩, ⟨#[]⟩, ⟨#[]⟩, ⟨#[]⟩, ⟨#[]⟩, ⟨#[]⟩, ⟨#[]⟩, ⟨#[105, 51, 50, 46, 115, 116, 111, 114, 101]⟩, ⟨#[]⟩, ⟨#[]⟩, ⟨#[]⟩, ⟨#[105, 51, 50, 46, 115, 116, 111, 114, 101, 56]⟩, ⟨#[105, 51, 50, 46, 115, 116, 111, 114, 101, 49, 54]⟩, ⟨#[]⟩, ⟨#[]⟩, ⟨#[]⟩, ⟨#[109, 101, 109, 111, 114, 121, 46, 115, 105, 122, 101]⟩, ⟨#[109, 101, 109, 111, 114, 121, 46, 103, 114, 111, 119]⟩, ⟨#[105, 51, 50, 46, 99, 111, 110, 115, 116]⟩, ⟨#[]⟩, ⟨#[]⟩, ⟨#[]⟩, ⟨#[105, 51, 50, 46, 101, 113, 122]⟩, ⟨#[105, 51, 50, 46, 101, 113]⟩, ⟨#[105, 51, 50, 46, 110, 101]⟩, ⟨#[105, 51, 50, 46, 108, 116, 95, 115]⟩, ⟨#[105, 51, 50, 46, 108, 116, 95, 117]⟩, ⟨#[105, 51, 50, 46, 103, 116, 95, 115]⟩, ⟨#[105, 51, 50, 46, 103, 116, 95, 117]⟩, ⟨#[105, 51, 50, 46, 108, 101, 95, 115]⟩, ⟨#[105, 51, 50, 46, 108, 101, 95, 117]⟩, ⟨#[105, 51, 50, 46, 103, 101, 95, 115]⟩, ⟨#[105, 51, 50, 46, 103, 101, 95, 117]⟩, ⟨#[]⟩, ⟨#[]⟩, ⟨#[]⟩, ⟨#[]⟩, ⟨#[]⟩, ⟨#[]⟩, ⟨#[]⟩, ⟨#[]⟩, ⟨#[]⟩, ⟨#[]⟩, ⟨#[]⟩, ⟨#[]⟩, ⟨#[]⟩, ⟨#[]⟩, ⟨#[]⟩, ⟨#[]⟩, ⟨#[]⟩, ⟨#[]⟩, ⟨#[]⟩, ⟨#[]⟩, ⟨#[]⟩, ⟨#[]⟩, ⟨#[]⟩, ⟨#[105, 51, 50, 46, 99, 108, 122]⟩, ⟨#[105, 51, 50, 46, 99, 116, 122]⟩, ⟨#[105, 51, 50, 46, 112, 111, 112, 99, 110, 116]⟩, ⟨#[105, 51, 50, 46, 97, 100, 100]⟩, ⟨#[105, 51, 50, 46, 115, 117, 98]⟩, ⟨#[105, 51, 50, 46, 109, 117, 108]⟩, ⟨#[105, 51, 50, 46, 100, 105, 118, 95, 115]⟩, ⟨#[105, 51, 50, 46, 100, 105, 118, 95, 117]⟩, ⟨#[105, 51, 50, 46, 114, 101, 109, 95, 115]⟩, ⟨#[105, 51, 50, 46, 114, 101, 109, 95, 117]⟩, ⟨#[105, 51, 50, 46, 97, 110, 100]⟩, ⟨#[105, 51, 50, 46, 111, 114]⟩, ⟨#[105, 51, 50, 46, 120, 111, 114]⟩, ⟨#[105, 51, 50, 46, 115, 104, 108]⟩, ⟨#[105, 51, 50, 46, 115, 104, 114, 95, 115]⟩, ⟨#[105, 51, 50, 46, 115, 104, 114, 95, 117]⟩, ⟨#[105, 51, 50, 46, 114, 111, 116, 108]⟩, ⟨#[105, 51, 50, 46, 114, 111, 116, 114]⟩, ⟨#[]⟩, ⟨#[]⟩, ⟨#[]⟩, ⟨#[]⟩, ⟨#[]⟩, ⟨#[]⟩, ⟨#[]⟩, ⟨#[]⟩, ⟨#[]⟩, ⟨#[]⟩, ⟨#[]⟩, ⟨#[]⟩, ⟨#[]⟩, ⟨#[]⟩, ⟨#[]⟩, ⟨#[]⟩, ⟨#[]⟩, ⟨#[]⟩, ⟨#[]⟩, ⟨#[]⟩, ⟨#[]⟩, ⟨#[]⟩, ⟨#[]⟩, ⟨#[]⟩, ⟨#[]⟩, ⟨#[]⟩, ⟨#[]⟩, ⟨#[]⟩, ⟨#[]⟩, ⟨#[]⟩, ⟨#[]⟩, ⟨#[]⟩, ⟨#[]⟩, ⟨#[]⟩, ⟨#[]⟩, ⟨#[]⟩, ⟨#[]⟩, ⟨#[]⟩, ⟨#[]⟩, ⟨#[]⟩, ⟨#[]⟩, ⟨#[]⟩, ⟨#[]⟩, ⟨#[]⟩, ⟨#[]⟩, ⟨#[]⟩, ⟨#[]⟩, ⟨#[]⟩, ⟨#[]⟩, ⟨#[]⟩, ⟨#[]⟩, ⟨#[]⟩, ⟨#[]⟩, ⟨#[]⟩, ⟨#[]⟩, ⟨#[]⟩, ⟨#[]⟩, ⟨#[]⟩, ⟨#[]⟩, ⟨#[]⟩, ⟨#[]⟩, ⟨#[]⟩, ⟨#[]⟩, ⟨#[]⟩, ⟨#[]⟩, ⟨#[]⟩, ⟨#[]⟩, ⟨#[]⟩, ⟨#[]⟩, ⟨#[]⟩, ⟨#[]⟩, ⟨#[]⟩, ⟨#[]⟩, ⟨#[]⟩, ⟨#[]⟩, ⟨#[]⟩, ⟨#[]⟩, ⟨#[]⟩, ⟨#[]⟩, ⟨#[]⟩, ⟨#[]⟩, ⟨#[]⟩, ⟨#[]⟩, ⟨#[]⟩, ⟨#[]⟩, ⟨#[]⟩, ⟨#[]⟩, ⟨#[]⟩, ⟨#[]⟩, ⟨#[]⟩, ⟨#[]⟩, ⟨#[]⟩, ⟨#[]⟩, ⟨#[]⟩, ⟨#[]⟩, ⟨#[]⟩, ⟨#[]⟩, ⟨#[]⟩, ⟨#[]⟩, ⟨#[]⟩, ⟨#[]⟩, ⟨#[]⟩, ⟨#[]⟩, ⟨#[]⟩, ⟨#[]⟩, ⟨#[]⟩, ⟨#[]⟩, ⟨#[]⟩, ⟨#[]⟩, ⟨#[]⟩, ⟨#[]⟩, ⟨#[]⟩, ⟨#[]⟩, ⟨#[]⟩, ⟨#[]⟩, ⟨#[]⟩, ⟨#[]⟩, ⟨#[]⟩, ⟨#[]⟩, ⟨#[]⟩, ⟨#[]⟩, ⟨#[]⟩, ⟨#[]⟩, ⟨#[]⟩, ⟨#[]⟩, ⟨#[]⟩, ⟨#[]⟩, ⟨#[]⟩, ⟨#[]⟩, ⟨#[]⟩, ⟨#[]⟩, ⟨#[]⟩, ⟨#[]⟩, ⟨#[]⟩, ⟨#[]⟩]

theorem Nmdoes : Does Tryd.prog env 59 [] [] (.agg (nmL.map fun s => .p (.sc (.string s)))) [] := does_fast names (K := NmK2) NmK2ok (n := 10000000) (by kernel_rfl)

end Go.Proofs.YtdmmllcjgjmbbaaDoor.N
end
