/-
  What is wrong with instructions, by the document, as plain functions: no program in sight.
  The looker's memory: its record and its frames; calls after which the frames' list is told under a number of its own.
  The looker's record and its frames, in cells; a module's cells.
  stack.Check and the frames' copy: what they tell of frames that are as they should be.
-/
import Derived.Test.YtgbphddecpjlhaaGreatDoorMH
import Derived.Test.YtgbphddecpjlhaaGreatDoorMI

section
namespace Go.Am

/-- How many words a plain operation takes, and tells. -/
def isOneOp (op : Int) : Bool := decide (op = 69 ∨ op = 103 ∨ op = 104 ∨ op = 105)
def isTwoOp (op : Int) : Bool := decide ((70 ≤ op ∧ op ≤ 79) ∨ (106 ≤ op ∧ op ≤ 120))
def takesF (op : Int) : Nat :=
  if op = 69 ∨ op = 103 ∨ op = 104 ∨ op = 105 ∨ op = 26 ∨ op = 33 ∨ op = 36 ∨ op = 34 ∨ op = 40 ∨ op = 44 ∨ op = 45 ∨ op = 46 ∨ op = 47 ∨ op = 64 then 1
  else if (70 ≤ op ∧ op ≤ 79) ∨ (106 ≤ op ∧ op ≤ 120) ∨ op = 54 ∨ op = 58 ∨ op = 59 then 2 else if op = 27 then 3 else 0
def tellsF (op : Int) : Nat :=
  if op = 69 ∨ op = 103 ∨ op = 104 ∨ op = 105 ∨ (70 ≤ op ∧ op ≤ 79) ∨ (106 ≤ op ∧ op ≤ 120) ∨ op = 27 ∨ op = 32 ∨ op = 35 ∨ op = 63 ∨ op = 65 ∨ op = 34 ∨ op = 40 ∨ op = 44 ∨ op = 45 ∨ op = 46 ∨ op = 47 ∨ op = 64 then 1 else 0
def hasShape (op : Int) : Bool := decide (takesF op ≠ 0 ∨ tellsF op ≠ 0 ∨ op = 1)

theorem takesF_le (op : Int) : takesF op ≤ 3 := by
  unfold takesF
  split
  · omega
  split
  · omega
  split <;> omega
theorem tellsF_le (op : Int) : tellsF op ≤ 1 := by unfold tellsF; split <;> omega

/-- A load, or a store; by which power of two it may be aligned. -/
def isStV (op : Int) : Bool := decide (op = 40 ∨ op = 44 ∨ op = 45 ∨ op = 46 ∨ op = 47 ∨ op = 54 ∨ op = 58 ∨ op = 59)
def alignV (op : Int) : Int := if op = 40 ∨ op = 54 then 2 else if op = 46 ∨ op = 47 ∨ op = 59 then 1 else 0

/-- What instructions may name: functions' types, types, global words (may they be set), whether there is a memory, how many words of its own, how many words it tells. -/
structure VEnv where
  ty : Int → Option (Nat × Nat)
  ind : Int → Option (Nat × Nat)
  glob : List Bool
  mem : Bool
  own : Nat
  ret : Nat

inductive VR where
  | bad (e : Int) (at' : Nat)
  | ok (n : Nat) (dead : Bool) (c : Nat)

/-- Words are taken. -/
def popV (at' k n : Nat) (d : Bool) (f : Nat → VR) : VR := if n < k ∧ d = false then .bad 200 at' else f (n - k)

/-- A list's end. -/
def endV (r n : Nat) (d : Bool) (at' : Nat) (f : VR) : VR := popV at' r n d fun m => if 0 < m then .bad 201 at' else f

/-- Is what a plain instruction names there? -/
def nameV (V : VEnv) (op a : Int) : Int :=
  if op = 32 ∨ op = 33 ∨ op = 34 then (if a < V.own then 0 else 6)
  else if op = 36 then (match V.glob[a.toNat]? with
    | some true => 0
    | some false => 212
    | none => 6)
  else if op = 35 then (if a < V.glob.length then 0 else 6)
  else if op = 63 ∨ op = 64 then (if V.mem = true then 0 else 6)
  else if isStV op = true then (if V.mem = true then (if alignV op < a then 211 else 0) else 6)
  else 0

/-- The labels of a table: how many words they take; or what is wrong with them. -/
def tabV (ls : List Nat) (tags : List Int) (a : Int) : Int ⊕ Nat :=
  if tags.all (fun t => decide (t < ls.length)) = false then .inl 6
  else match ls[a.toNat]? with
    | none => .inl 6
    | some k => if tags.all (fun t => ls.getD t.toNat 0 == k) = true then .inr k else .inl 214

/-- An instruction without lists. -/
def flatV (V : VEnv) (ls : List Nat) (op a : Int) (tags : List Int) (n : Nat) (d : Bool) (c : Nat) : VR :=
  if op = 12 then (match ls[a.toNat]? with
    | none => .bad 6 c
    | some k => popV c k n d fun _ => .ok 0 true c)
  else if op = 13 then (match ls[a.toNat]? with
    | none => .bad 6 c
    | some k => popV c 1 n d fun n1 => popV c k n1 d fun n2 => .ok (n2 + k) d c)
  else if op = 14 then (match tabV ls tags a with
    | .inl e => .bad e c
    | .inr k => popV c 1 n d fun n1 => popV c k n1 d fun _ => .ok 0 true c)
  else if op = 15 then popV c V.ret n d fun _ => .ok 0 true c
  else if op = 16 then (match V.ty a with
    | none => .bad 6 c
    | some (p, r) => popV c p n d fun n1 => .ok (n1 + r) d c)
  else if op = 17 then (match V.ind a with
    | none => .bad 6 c
    | some (p, r) => popV c 1 n d fun n1 => popV c p n1 d fun n2 => .ok (n2 + r) d c)
  else if nameV V op a ≠ 0 then .bad (nameV V op a) c
  else popV c (takesF op) n d fun n1 => .ok (n1 + tellsF op) d c

mutual
def valI (V : VEnv) (ls : List Nat) : Ins → Nat → Bool → Nat → VR
  | .mk op r a _ _ tags l e, n, d, c =>
    if op = 0 then .ok 0 true c
    else if op = 2 ∨ op = 3 then
      (match valL V ((if op = 3 then 0 else r.toNat) :: ls) l 0 false c with
        | .bad e p => .bad e p
        | .ok n1 d1 c1 => endV r.toNat n1 d1 c (.ok (n + r.toNat) d c1))
    else if op = 4 then
      popV c 1 n d fun n0 => (match valL V (r.toNat :: ls) l 0 false c with
        | .bad e p => .bad e p
        | .ok n1 d1 c1 => endV r.toNat n1 d1 c (match valL V (r.toNat :: ls) e 0 false c1 with
          | .bad e p => .bad e p
          | .ok n2 d2 c2 => endV r.toNat n2 d2 c (.ok (n0 + r.toNat) d c2)))
    else flatV V ls op a tags n d c
def valL (V : VEnv) (ls : List Nat) : List Ins → Nat → Bool → Nat → VR
  | [], n, d, c => .ok n d c
  | x :: r, n, d, c => match valI V ls x n d (c + 1) with
    | .bad e p => .bad e p
    | .ok n1 d1 c1 => valL V ls r n1 d1 c1
end

/-- A function's instructions. -/
def bodyV (V : VEnv) (l : List Ins) : Int × Nat :=
  match valL V [V.ret] l 0 false 0 with
  | .bad e p => (e, p)
  | .ok n d _ => match endV V.ret n d 0 (.ok 0 false 0) with
    | .bad e p => (e, p)
    | .ok .. => (0, 0)

end Go.Am
end

section
namespace Go.Am
open Go.RowKit

section
variable {P : Program} {E : Env} {g : Gh} {m : Mem} {w : World}

theorem getElem?_kill {m : Mem} {i : Nat} (h : i < m.length) : (m.set i .dead)[i]? = some .dead := by simp [h]

/-- A block of cells, told another way. -/
theorem Rel.retellC (h : Rel g m w) {i : Nat} {l l' : List AV} (hb : m[i]? = some (.ac l)) (hl : ∀ vs, VAs g w l vs → VAs g w l' vs) :
    Rel g (m.set i (.ac l')) w ∧ Stp g m w g (m.set i (.ac l')) w := by
  have own : ∀ (j : Nat) (x : Blk), (m.set i (.ac l'))[j]? = some x → x.owns = true → ∃ y : Blk, m[j]? = some y ∧ y.owns = true := fun j x hj ho => by
    rcases get_set hj with ⟨rfl, _⟩ | ⟨_, q⟩
    · exact ⟨_, hb, rfl⟩
    · exact ⟨x, q, ho⟩
  refine ⟨⟨fun j hj => h.far j (by simpa using hj), fun j hj => ?_, fun j x cs hj hx => ?_, fun j c hj hc => ?_, fun j q x x' c hj hq ho ho' hc hc' => ?_, h.there, fun j k1 l1 hj => ?_⟩,
    ⟨Nat.le_refl _, fun _ _ _ => rfl, fun _ _ p => ⟨p, rfl⟩, fun _ _ p => .inl p, fun c ho => ?_, rfl, rfl, rfl⟩⟩
  · rcases get_set hj with ⟨_, q⟩ | ⟨_, q⟩
    · cases q
    · exact h.free j q
  · rcases get_set hj with ⟨rfl, rfl⟩ | ⟨_, q⟩
    · simp only [Blk.cells?, Option.some.injEq] at hx
      subst hx
      obtain ⟨c', cs', e, q, k1, k2, k3, k4, k5⟩ := h.cells _ _ _ hb rfl
      exact ⟨c', cs', e, q, k1, k2, k3, ⟨hl _ k4.1, k4.2⟩, k5⟩
    · exact h.cells j x cs q hx
  · rcases get_set hj with ⟨_, q⟩ | ⟨_, q⟩
    · cases q
    · exact h.tok j c q hc
  · obtain ⟨y, y1, y2⟩ := own j x hj ho
    obtain ⟨z, z1, z2⟩ := own q x' hq ho'
    exact h.inj j q y z c y1 z1 y2 z2 hc hc'
  · rcases get_set hj with ⟨_, q⟩ | ⟨_, q⟩
    · cases q
    · exact h.obs j k1 l1 q
  · obtain ⟨j, x, hj, hx, hc⟩ := ho
    obtain ⟨y, y1, y2⟩ := own j x hj hx
    exact .inl ⟨j, y, y1, y2, hc⟩

/-- A block is told no more. -/
theorem Does.kill {f : FuncId} {args : List AV} {m m' : Mem} {v : AV} (h : Does P E f args m v m') (i : Nat) : Does P E f args m v (m'.set i .dead) := by
  obtain ⟨hf, h⟩ := h
  refine ⟨hf, fun g w cargs cs hr hv hg => ?_⟩
  obtain ⟨w', g', cv, fr, h1, h2, h3, h4, h5, h6, h7, h8⟩ := h g w cargs cs hr hv hg
  obtain ⟨k1, k2⟩ := h5.kill i
  exact ⟨w', g', cv, fr, h1, h2, h3, h4, k1, h6.trans k2, h7, by simpa using h8⟩

/-- The frames' list, where it was before, is told under a number of its own. -/
theorem Does.settle {f : FuncId} {args l0 X : List AV} {m : Mem} {v : AV} {t : TypeId} {q : Bool} (h : Does P E f args m v [.ac l0, .ob (.gr t q) X]) (hm : m.length ≤ 2) :
    Does P E f args m v [.ac (renL (swap1 2) l0), .dead, .ob (.gr t q) X] := by
  obtain ⟨hf, h⟩ := h
  refine ⟨hf, fun g0 w0 cargs cs hr hv hg => ?_⟩
  obtain ⟨w, g, cv, fr, h1, h2, h3, h4, hrel, h6, h7, h8⟩ := h g0 w0 cargs cs hr hv hg
  obtain ⟨f1, f2⟩ := hrel.frees 1
  have hb : (([.ac l0, .ob (.gr t q) X] : Mem) ++ frees 1)[1]? = some (.ob (.gr t q) X) := rfl
  obtain ⟨c1, o1, vs1, b1, b2, b3, b4, b5, b6⟩ := f1.obs 1 _ _ hb
  have hn : (([.ac l0, .ob (.gr t q) X] : Mem) ++ frees 1)[2]? = some .free := rfl
  obtain ⟨m1, m2, m3⟩ := f1.move hb b1 hn
  have hb0 : (((([.ac l0, .ob (.gr t q) X] : Mem) ++ frees 1).set 1 .dead).set 2 (.ob (.gr t q) X))[0]? = some (.ac l0) := rfl
  have hre : Renames (swap1 2) (g.put 2 c1 (g.lo 1) (g.hi 1)) (g.put 2 c1 (g.lo 1) (g.hi 1)) := ⟨fun i k hk => by
    unfold swap1 at hk
    cases hi : Nat.beq i 1 with
    | true =>
      rw [hi] at hk
      obtain rfl := Option.some.inj hk
      obtain rfl := Nat.eq_of_beq_eq_true hi
      simp [Gh.put, b1]
    | false =>
      rw [hi] at hk
      obtain rfl := Option.some.inj hk
      exact ⟨rfl, rfl, rfl⟩, rfl⟩
  obtain ⟨n1, n2⟩ := m1.retellC hb0 (l' := renL (swap1 2) l0) fun vs hv => hv.ren hre
  have hmem : ((((([.ac l0, .ob (.gr t q) X] : Mem) ++ frees 1).set 1 .dead).set 2 (.ob (.gr t q) X)).set 0 (.ac (renL (swap1 2) l0))) = [.ac (renL (swap1 2) l0), .dead, .ob (.gr t q) X] := rfl
  rw [hmem] at n1 n2
  refine ⟨w, _, cv, fr, h1, h2, h3, h4.mono m2, n1, h6.trans ((f2.trans m3).trans n2), h7.trans fun k c' hk hc' => ?_, by simp; omega⟩
  have h1 : k ≠ 2 := by omega
  simp [Gh.put, h1, hc']

end
end Go.Am
end

section
namespace Go.Proofs.YtgbphddecpjlhaaGreatDoor.N
open Go Go.Am

/-- A module's lists, in cells. -/
structure Md where
  tyN : Nat
  tyC : List PV
  imN : Nat
  imC : List PV
  fnN : Nat
  fnC : List PV
  taN : Nat
  taC : List PV
  meN : Nat
  meC : List PV
  glN : Nat
  glC : List PV
  exN : Nat
  exC : List PV
  st : Bool
  sn : Int
  elN : Nat
  elC : List PV
  daN : Nat
  daC : List PV

abbrev Md.cells (M : Md) : List AV := [.p (.ps M.tyN 2 M.tyC), .p (.ps M.imN 3 M.imC), .p (.ps M.fnN 3 M.fnC), .p (.ps M.taN 3 M.taC), .p (.ps M.meN 3 M.meC), .p (.ps M.glN 2 M.glC), .p (.ps M.exN 3 M.exC), sB M.st, sI .u32 M.sn, .p (.ps M.elN 2 M.elC), .p (.ps M.daN 2 M.daC)]

/-- The looker's record: the frames' list is in block j. -/
abbrev lkB (M : Md) (tP tR own h : Int) (j n : Nat) (e p nx : Int) : Blk := .ac (M.cells ++ [sI .i64 tP, sI .i64 tR, sI .u64 own, sI .i64 h, .ms j 0 n 4 none, sI .i64 e, sI .i64 p, sI .i64 nx])

abbrev frB (cs : List PV) : Blk := .ob (.gr 135 true) (cs.map .p)

/-- A frame's cells. -/
abbrev frC (op base res : Int) (dead : Bool) : List PV := [.sc (.int .i64 op), .sc (.int .i64 base), .sc (.int .i64 res), .sc (.bool dead)]

@[simp] theorem keep_map (l : List PV) : List.map keepP (List.map AV.p l) = List.map AV.p l := by
  rw [List.map_map]; rfl

def toldAt (l : List (Nat × Nat × AV)) (f d : Nat) : Option AV := match l with
  | [] => none
  | (f', d', v) :: r => cond (Nat.beq f f' && Nat.beq d d') (some v) (toldAt r f d)

def envW (rows : List (Nat × Nat × AV)) : Env where
  glob := tabAt tabs
  wr := wrs
  keep := keepAt keeps
  told := toldAt rows

theorem Does.fromW {rows : List (Nat × Nat × AV)} {f : FuncId} {args : List AV} {m m' : Mem} {v : AV} (h : Does Tryz.prog (envW rows) f args m v m') : Does Tryz.prog env f args m v m' := h.env fun _ _ q => q

end Go.Proofs.YtgbphddecpjlhaaGreatDoor.N
end

section
set_option linter.unusedSimpArgs false
namespace Go.Proofs.YtgbphddecpjlhaaGreatDoor.N
open Go Go.Am

/-- A frame. -/
structure Fr where
  op : Int
  base : Int
  res : Int
  dead : Bool

def encFs : List Fr → List PV
  | [] => []
  | f :: r => frC f.op f.base f.res f.dead ++ encFs r

theorem encFs_length : ∀ l : List Fr, (encFs l).length = l.length * 4
  | [] => rfl
  | f :: r => by simp [encFs, encFs_length r]; omega

theorem encFs_append : ∀ l m : List Fr, encFs (l ++ m) = encFs l ++ encFs m
  | [], _ => rfl
  | f :: r, m => by simp [encFs, encFs_append r m]

/-- The cells of the frame at a place. -/
theorem fr_cell : ∀ {l : List Fr} {k : Nat} {f : Fr}, l[k]? = some f → ∀ (ex : List PV) (c : Nat), c < 4 → (List.map AV.p (encFs l ++ ex)).getD (k * 4 + c) .junk = (List.map AV.p (frC f.op f.base f.res f.dead)).getD c .junk
  | [], _, _, h, _, _, _ => by simp at h
  | y :: l, 0, x, h, ex, c, hc => by
    simp only [List.getElem?_cons_zero, Option.some.injEq] at h; subst h
    rw [encFs, Nat.zero_mul, Nat.zero_add, List.append_assoc, List.map_append, List.getD_eq_getElem?_getD, List.getD_eq_getElem?_getD, List.getElem?_append_left (by simpa using hc)]
  | y :: l, k + 1, x, h, ex, c, hc => by
    have ih := fr_cell (l := l) (k := k) (f := x) (by simpa using h) ex c hc
    rw [List.getD_eq_getElem?_getD] at ih
    rw [encFs, List.append_assoc, List.map_append, List.getD_eq_getElem?_getD, List.getElem?_append_right (by simp; omega), show (k + 1) * 4 + c - (List.map AV.p (frC y.op y.base y.res y.dead)).length = k * 4 + c by simp; omega]
    exact ih

theorem fr_cells {l : List Fr} {k : Nat} {f : Fr} (h : l[k]? = some f) (ex : List PV) :
    (List.map AV.p (encFs l ++ ex)).getD (k * 4) .junk = sI .i64 f.op ∧ (List.map AV.p (encFs l ++ ex)).getD (k * 4 + 1) .junk = sI .i64 f.base ∧
    (List.map AV.p (encFs l ++ ex)).getD (k * 4 + 2) .junk = sI .i64 f.res ∧ (List.map AV.p (encFs l ++ ex)).getD (k * 4 + 3) .junk = sB f.dead :=
  ⟨fr_cell h ex 0 (by omega), fr_cell h ex 1 (by omega), fr_cell h ex 2 (by omega), fr_cell h ex 3 (by omega)⟩

/-- Frames behind the first one are as they should be. -/
def okFs (h : Int) : Int → List Fr → Prop
  | _, [] => True
  | b, f :: r => (f.op = 2 ∨ f.op = 3 ∨ f.op = 4 ∨ f.op = 5) ∧ b ≤ f.base ∧ f.base ≤ h ∧ 0 ≤ f.res ∧ f.res ≤ 1 ∧ okFs h f.base r

/-- A stand that may be. -/
def okStand (h : Int) : List Fr → Prop
  | [] => False
  | f :: r => f.op = 0 ∧ f.base = 0 ∧ 0 ≤ f.res ∧ f.res ≤ 1 ∧ okFs h 0 r ∧ 0 ≤ h ∧ h ≤ 1073741824 ∧ r.length + 1 ≤ 1000

def ckLC (f : FuncId) (_ : List AV) (m : Mem) : Option (AV × Mem) := cond (Nat.beq f 158) (some (sB true, m)) none
def ckLS (_h _b : Int) (_n i : Nat) (_cs : List PV) (op base res : Int) (dead : Bool) : FuncId → Nat → Nat → Option (AV → AV) := shapeAt [(142, 7, 2, .agg [sI .i64 op, sI .i64 base, sI .i64 res, sB dead]), (142, 12, 0, sI .i64 ((i + 1 : Nat) : Int))]
/- cln: 21 steps -/
noncomputable def clnOrc : Orc := orcL noCall noLed [] [] [(143, 4, 2)]
def clnSc : Sc := .fin
noncomputable def clnTree (k : Nat) (cs : List PV) : Tree :=
  (.must (allP (List.take ((k + 1) * 4) (List.drop 0 (List.map AV.p cs))) && (0 + (k + 1) * 4).ble (List.map AV.p cs).length && (((0 + (k + 1)) * 32).ble lim && (0 + (k + 1)).ble lim) && true && true)
   (.out (Out.ret (AV.ms 1 0 (0 + (k + 1)) 4 Option.none) [Blk.ob (ObK.gr 135 true) (List.map keepP (List.map AV.p cs)), Blk.ob (ObK.gr 135 true) (List.map keepP ([] ++ List.map AV.p (List.map pvOf (List.take ((k + 1) * 4) (List.drop 0 (List.map AV.p cs))))))])))
theorem cln_tree (k : Nat) (cs : List PV) : growF Tryz.prog env clnOrc 1000000 143 ([AV.ms 0 0 (k + 1) 4 Option.none]) ([frB cs]) clnSc = clnTree k cs := by kernel_rfl

/- ck0: 138 steps -/
noncomputable def ck0Orc : Orc := orcL noCall noLed [(142, 1)] [(142, 2, 4), (142, 2, 9), (142, 2, 15), (142, 0, 0)] []
def ck0Sc : Sc := (.fork (.lit (.lit (.lit .fin))) (.fork (.lit (.lit .fin)) (.fork (.lit .fin) .fin)))
noncomputable def ck0Tree (h : Int) (n : Nat) (cs : List PV) : Tree :=
  (.test (decide (h < 0))
   (.out (Out.ret (AV.p (PV.sc (Value.int IntKind.i64 2))) [Blk.ob (ObK.gr 135 true) (List.map keepP (List.map AV.p cs))]))
   (.test (decide (h > 1073741824))
    (.out (Out.ret (AV.p (PV.sc (Value.int IntKind.i64 2))) [Blk.ob (ObK.gr 135 true) (List.map keepP (List.map AV.p cs))]))
    (.test (decide ((↑n : Int) < 1))
     (.out (Out.ret (AV.p (PV.sc (Value.int IntKind.i64 2))) [Blk.ob (ObK.gr 135 true) (List.map keepP (List.map AV.p cs))]))
     (.test (decide ((↑n : Int) > 1000))
      (.out (Out.ret (AV.p (PV.sc (Value.int IntKind.i64 2))) [Blk.ob (ObK.gr 135 true) (List.map keepP (List.map AV.p cs))]))
      (.at (bodyCfg Tryz.prog env 142 1 [AV.mp 1 0, AV.p (PV.sc (Value.int IntKind.i64 0)), AV.ms 0 0 n 4 Option.none, AV.p (PV.sc (Value.int IntKind.i64 (↑n : Int))), AV.p (PV.sc (Value.int IntKind.i64 0))] ([Blk.ob (ObK.gr 135 true) (List.map keepP (List.map AV.p cs)), Blk.ac [AV.p (PV.sc (Value.int IntKind.i64 h)), AV.ms 0 0 n 4 Option.none]]) 1 85))))))
theorem ck0_tree (h : Int) (n : Nat) (cs : List PV) : growF Tryz.prog env ck0Orc 1000000 142 ([AV.agg [sI IntKind.i64 h, AV.ms 0 0 n 4 Option.none]]) ([frB cs]) ck0Sc = ck0Tree h n cs := by kernel_rfl

/- ckL: 500 steps -/
noncomputable def ckLOrc (h : Int) (b : Int) (n : Nat) (i : Nat) (cs : List PV) (op : Int) (base : Int) (res : Int) (dead : Bool) : Orc := orcS ckLC noLed [(142, 1)] [(142, 0, 2), (142, 8, 3), (142, 8, 8), (142, 9, 3), (142, 9, 6), (142, 9, 19), (142, 9, 26), (142, 9, 31), (142, 0, 3)] [(142, 7, 1), (142, 7, 2)] (ckLS h b n i cs op base res dead)
def ckLSc : Sc := (.fork (.fork (.fork (.fork (.yes (.lit (.lit (.lit (.lit .fin))))) (.fork (.lit (.lit (.lit .fin))) (.fork (.lit (.lit .fin)) (.fork (.lit .fin) .fin)))) (.lit (.yes (.lit (.lit (.lit (.lit .fin))))))) (.lit (.lit (.no (.fork (.lit (.lit (.lit .fin))) (.fork (.lit (.lit .fin)) (.fork (.lit .fin) .fin))))))) .fin)
noncomputable def ckLTree (h : Int) (b : Int) (n : Nat) (i : Nat) (cs : List PV) (op : Int) (base : Int) (res : Int) (dead : Bool) : Tree :=
  (.test (decide ((↑i : Int) < (↑n : Int)))
   (.must (inB (↑i : Int) n && true && true)
    (.must ((0 + (↑i : Int).toNat * 4 + 4).ble (List.map AV.p cs).length && ((normA (Option.some (TypeInfo.mk (TypeDesc.int IntKind.i64) "int" 1 8 false 8 8 (Option.some (Value.int IntKind.i64 0)) true #[]).desc) ((List.map AV.p cs).getD (0 + (↑i : Int).toNat * 4) AV.junk)).snd && ((normA (Option.some (TypeInfo.mk (TypeDesc.int IntKind.i64) "int" 1 8 false 8 8 (Option.some (Value.int IntKind.i64 0)) true #[]).desc) ((List.map AV.p cs).getD (0 + (↑i : Int).toNat * 4 + 1) AV.junk)).snd && ((normA (Option.some (TypeInfo.mk (TypeDesc.int IntKind.i64) "int" 1 8 false 8 8 (Option.some (Value.int IntKind.i64 0)) true #[]).desc) ((List.map AV.p cs).getD (0 + (↑i : Int).toNat * 4 + 1 + 1) AV.junk)).snd && ((normA (Option.some (TypeInfo.mk TypeDesc.bool "bool" 1 1 false 1 1 (Option.some (Value.bool false)) true #[]).desc) ((List.map AV.p cs).getD (0 + (↑i : Int).toNat * 4 + 1 + 1 + 1) AV.junk)).snd && true)))) && true)
     (.need (AV.agg [(normA (Option.some (TypeInfo.mk (TypeDesc.int IntKind.i64) "int" 1 8 false 8 8 (Option.some (Value.int IntKind.i64 0)) true #[]).desc) ((List.map AV.p cs).getD (0 + (↑i : Int).toNat * 4) AV.junk)).fst, (normA (Option.some (TypeInfo.mk (TypeDesc.int IntKind.i64) "int" 1 8 false 8 8 (Option.some (Value.int IntKind.i64 0)) true #[]).desc) ((List.map AV.p cs).getD (0 + (↑i : Int).toNat * 4 + 1) AV.junk)).fst, (normA (Option.some (TypeInfo.mk (TypeDesc.int IntKind.i64) "int" 1 8 false 8 8 (Option.some (Value.int IntKind.i64 0)) true #[]).desc) ((List.map AV.p cs).getD (0 + (↑i : Int).toNat * 4 + 1 + 1) AV.junk)).fst, (normA (Option.some (TypeInfo.mk TypeDesc.bool "bool" 1 1 false 1 1 (Option.some (Value.bool false)) true #[]).desc) ((List.map AV.p cs).getD (0 + (↑i : Int).toNat * 4 + 1 + 1 + 1) AV.junk)).fst] = AV.agg [sI IntKind.i64 op, sI IntKind.i64 base, sI IntKind.i64 res, sB dead])
      (.test ((↑i : Int) == 0)
       (.test (op == 0)
        (.test (!base == 0)
         (.must ((↑i : Int) == 0)
          (.out (Out.ret (AV.p (PV.sc (Value.int IntKind.i64 2))) [Blk.ob (ObK.gr 135 true) (List.map keepP (List.map AV.p cs))])))
         (.test (decide (base < b))
          (.out (Out.ret (AV.p (PV.sc (Value.int IntKind.i64 2))) [Blk.ob (ObK.gr 135 true) (List.map keepP (List.map AV.p cs))]))
          (.test (decide (base > h))
           (.out (Out.ret (AV.p (PV.sc (Value.int IntKind.i64 2))) [Blk.ob (ObK.gr 135 true) (List.map keepP (List.map AV.p cs))]))
           (.test (decide (res < 0))
            (.out (Out.ret (AV.p (PV.sc (Value.int IntKind.i64 2))) [Blk.ob (ObK.gr 135 true) (List.map keepP (List.map AV.p cs))]))
            (.test (decide (res > 1))
             (.out (Out.ret (AV.p (PV.sc (Value.int IntKind.i64 2))) [Blk.ob (ObK.gr 135 true) (List.map keepP (List.map AV.p cs))]))
             (.need (AV.p (PV.sc (Value.int IntKind.i64 (IntKind.i64.wrap ((↑i : Int) + 1)))) = sI IntKind.i64 (↑(i + 1) : Int))
              (.at (bodyCfg Tryz.prog env 142 1 [AV.mp 1 0, AV.p (PV.sc (Value.int IntKind.i64 base)), AV.ms 0 0 n 4 Option.none, AV.p (PV.sc (Value.int IntKind.i64 (↑n : Int))), AV.p (PV.sc (Value.int IntKind.i64 (↑(i + 1) : Int)))] ([Blk.ob (ObK.gr 135 true) (List.map keepP (List.map AV.p cs)), Blk.ac [AV.p (PV.sc (Value.int IntKind.i64 h)), AV.ms 0 0 n 4 Option.none]]) 1 85))))))))
        (.must ((↑i : Int) == 0)
         (.out (Out.ret (AV.p (PV.sc (Value.int IntKind.i64 2))) [Blk.ob (ObK.gr 135 true) (List.map keepP (List.map AV.p cs))]))))
       (.must (!((↑i : Int) == 0))
        (.call ⟨158, [AV.p (PV.sc (Value.int IntKind.i64 op))], [], AV.p (PV.sc (Value.bool true)), []⟩
         (.test (decide (base < b))
          (.out (Out.ret (AV.p (PV.sc (Value.int IntKind.i64 2))) [Blk.ob (ObK.gr 135 true) (List.map keepP (List.map AV.p cs))]))
          (.test (decide (base > h))
           (.out (Out.ret (AV.p (PV.sc (Value.int IntKind.i64 2))) [Blk.ob (ObK.gr 135 true) (List.map keepP (List.map AV.p cs))]))
           (.test (decide (res < 0))
            (.out (Out.ret (AV.p (PV.sc (Value.int IntKind.i64 2))) [Blk.ob (ObK.gr 135 true) (List.map keepP (List.map AV.p cs))]))
            (.test (decide (res > 1))
             (.out (Out.ret (AV.p (PV.sc (Value.int IntKind.i64 2))) [Blk.ob (ObK.gr 135 true) (List.map keepP (List.map AV.p cs))]))
             (.need (AV.p (PV.sc (Value.int IntKind.i64 (IntKind.i64.wrap ((↑i : Int) + 1)))) = sI IntKind.i64 (↑(i + 1) : Int))
              (.at (bodyCfg Tryz.prog env 142 1 [AV.mp 1 0, AV.p (PV.sc (Value.int IntKind.i64 base)), AV.ms 0 0 n 4 Option.none, AV.p (PV.sc (Value.int IntKind.i64 (↑n : Int))), AV.p (PV.sc (Value.int IntKind.i64 (↑(i + 1) : Int)))] ([Blk.ob (ObK.gr 135 true) (List.map keepP (List.map AV.p cs)), Blk.ac [AV.p (PV.sc (Value.int IntKind.i64 h)), AV.ms 0 0 n 4 Option.none]]) 1 85)))))))))))))
   (.out (Out.ret (AV.p (PV.sc (Value.int IntKind.i64 0))) [Blk.ob (ObK.gr 135 true) (List.map keepP (List.map AV.p cs))])))
theorem ckL_tree (h : Int) (b : Int) (n : Nat) (i : Nat) (cs : List PV) (op : Int) (base : Int) (res : Int) (dead : Bool) : grow Tryz.prog env (ckLOrc h b n i cs op base res dead) 1000000 true (bodyCfg Tryz.prog env 142 1 ([AV.mp 1 0, sI IntKind.i64 b, AV.ms 0 0 n 4 Option.none, sI IntKind.i64 (↑n : Int), sI IntKind.i64 (↑i : Int)]) ([frB cs, Blk.ac [sI IntKind.i64 h, AV.ms 0 0 n 4 Option.none]]) 1 85) ckLSc atEnd = ckLTree h b n i cs op base res dead := by kernel_rfl


theorem list_does {op : Int} (h : op = 2 ∨ op = 3 ∨ op = 4 ∨ op = 5) : Does Tryz.prog env 158 [sI .i64 op] [] (sB true) [] := by
  rcases h with rfl | rfl | rfl | rfl
  · exact does_fast names calls_nil (n := 1000) (by kernel_rfl)
  · exact does_fast names calls_nil (n := 1000) (by kernel_rfl)
  · exact does_fast names calls_nil (n := 1000) (by kernel_rfl)
  · exact does_fast names calls_nil (n := 1000) (by kernel_rfl)

@[simp] theorem map_pv (l : List PV) : List.map pvOf (List.map AV.p l) = l := by
  rw [List.map_map]
  exact List.map_id' _

theorem allP_map : ∀ l : List PV, allP (List.map AV.p l) = true
  | [] => rfl
  | _ :: l => allP_map l

theorem clone_does (k : Nat) (hk : k ≤ 1000) (cs : List PV) (hc : (k + 1) * 4 ≤ cs.length) :
    Does Tryz.prog env 143 [.ms 0 0 (k + 1) 4 none] [frB cs] (.ms 1 0 (k + 1) 4 none) [frB cs, frB (cs.take ((k + 1) * 4))] := by
  refine does_of_tree names (cln_tree k cs) ?_
  have hl : lim = 70368744177664 := rfl
  simp only [clnTree, Tree.ok, List.drop_zero, Nat.zero_add, keep_map, map_pv, List.nil_append, ← List.map_take, allP_map, Bool.true_and, List.length_map, Bool.and_true, Bool.and_eq_true, Nat.ble_eq]
  exact ⟨⟨hc, by omega, by omega⟩, trivial⟩

theorem ik : (IntKind.i64 == IntKind.i64) = true := rfl

set_option maxHeartbeats 1000000 in
theorem chk_loop (h : Int) (fs : List Fr) (ex : List PV) (hn : fs.length ≤ 1000) : ∀ (r i : Nat) (b : Int), i + r = fs.length → 1 ≤ i → okFs h b (fs.drop i) →
    Am.Good Tryz.prog env (bodyCfg Tryz.prog env 142 1 [.mp 1 0, sI .i64 b, .ms 0 0 fs.length 4 none, sI .i64 fs.length, sI .i64 i] [frB (encFs fs ++ ex), .ac [sI .i64 h, .ms 0 0 fs.length 4 none]] 1 85) (.ret (sI .i64 0) [frB (encFs fs ++ ex)]) := by
  intro r
  induction r with
  | zero =>
    intro i b hi h1 hok
    refine good_of_tree names (ckL_tree h b fs.length i (encFs fs ++ ex) 0 0 0 true) ?_
    simp only [ckLTree, Tree.ok]
    refine ⟨fun q => ?_, fun _ => by rw [keep_map]⟩
    simp only [decide_eq_true_eq] at q
    omega
  | succ r ih =>
    intro i b hi h1 hok
    have hkl : i < fs.length := by omega
    have hg : fs[i]? = some fs[i] := List.getElem?_eq_getElem hkl
    rw [List.drop_eq_getElem_cons hkl] at hok
    generalize fs[i] = f at *
    obtain ⟨o1, o2, o3, o4, o5, o6⟩ := hok
    obtain ⟨c0, c1, c2, c3⟩ := fr_cells hg ex
    have ih := ih (i + 1) f.base (by omega) (by omega) o6
    have w1 : IntKind.i64.wrap ((i : Int) + 1) = ((i + 1 : Nat) : Int) := by rw [i64In (by omega) (by omega)]; rfl
    have hlen : (encFs fs ++ ex).length = fs.length * 4 + ex.length := by rw [List.length_append, encFs_length]
    refine good_of_tree names (ckL_tree h b fs.length i (encFs fs ++ ex) f.op f.base f.res f.dead) ?_
    simp only [ckLTree, Tree.ok, Int.toNat_natCast, Nat.zero_add, c0, c1, c2, c3, normA, normP, isInt, isBool, pvInt, pvBool, keep_map, w1, List.length_map, hlen]
    have nz : ((i : Int) == 0) = false := by simp; omega
    have d1 : decide (f.base < b) = false := by simp; omega
    have d2 : decide (f.base > h) = false := by simp; omega
    have d3 : decide (f.res < 0) = false := by simp; omega
    have d4 : decide (f.res > 1) = false := by simp; omega
    have hb : decide ((i : Int) < (fs.length : Int)) = true := by simp only [decide_eq_true_eq]; omega
    simp only [nz, d1, d2, d3, d4, hb, ik, inB, Bool.not_false, Bool.false_eq_true, Bool.true_eq_false, false_implies, true_implies, and_true, true_and, Bool.and_true, Bool.true_and, Nat.ble_eq, Bool.and_eq_true, decide_eq_true_eq]
    exact ⟨by omega, by omega, list_does o1, ih⟩

set_option maxHeartbeats 1000000 in
theorem chk_does (h : Int) (fs : List Fr) (ex : List PV) (hok : okStand h fs) :
    Does Tryz.prog env 142 [.agg [sI .i64 h, .ms 0 0 fs.length 4 none]] [frB (encFs fs ++ ex)] (sI .i64 0) [frB (encFs fs ++ ex)] := by
  cases fs with
  | nil => exact hok.elim
  | cons f r =>
    obtain ⟨o1, o2, o3, o4, o5, o6, o7, o8⟩ := hok
    have loop := chk_loop h (f :: r) ex (by simpa using o8) r.length 1 f.base (by simp; omega) (by omega) (by rw [o2]; exact o5)
    have hg : (f :: r)[0]? = some f := rfl
    obtain ⟨c0, c1, c2, c3⟩ := fr_cells hg ex
    have hlen : (encFs (f :: r) ++ ex).length = (f :: r).length * 4 + ex.length := by rw [List.length_append, encFs_length]
    have hl2 : (f :: r).length = r.length + 1 := rfl
    refine does_of_tree names (ck0_tree h (f :: r).length (encFs (f :: r) ++ ex)) ?_
    simp only [ck0Tree, Tree.ok, keep_map]
    have e1 : decide (h < 0) = false := by simp; omega
    have e2 : decide (h > 1073741824) = false := by simp; omega
    have e3 : decide (((f :: r).length : Int) < 1) = false := by simp; omega
    have e4 : decide (((f :: r).length : Int) > 1000) = false := by simp; omega
    simp only [e1, e2, e3, e4]
    refine ⟨(fun q => by cases q), fun _ => ⟨(fun q => by cases q), fun _ => ⟨(fun q => by cases q), fun _ => ⟨(fun q => by cases q), fun _ => ?_⟩⟩⟩⟩
    have tr := ckL_tree h 0 (f :: r).length 0 (encFs (f :: r) ++ ex) f.op f.base f.res f.dead
    refine good_of_tree names tr ?_
    simp only [ckLTree, Tree.ok, Int.toNat_natCast, Nat.zero_add, Nat.zero_mul, normA, normP, isInt, isBool, pvInt, pvBool, keep_map, List.length_map, hlen]
    simp only [Nat.zero_mul, Nat.zero_add] at c0 c1 c2 c3
    have d1 : decide (f.base < 0) = false := by simp; omega
    have d2 : decide (f.base > h) = false := by simp; omega
    have d3 : decide (f.res < 0) = false := by simp; omega
    have d4 : decide (f.res > 1) = false := by simp; omega
    have d5 : (!f.base == 0) = false := by simp [o2]
    have d6 : (f.op == 0) = true := by simp [o1]
    have d7 : decide (((0 : Nat) : Int) < ((f :: r).length : Int)) = true := by simp only [decide_eq_true_eq]; omega
    have d8 : (((0 : Nat) : Int) == 0) = true := rfl
    simp only [c0, c1, c2, c3, d1, d2, d3, d4, d5, d6, d7, d8, ik, inB, Bool.not_true, Bool.false_eq_true, Bool.true_eq_false, false_implies, true_implies, and_true, true_and, Bool.and_true, Bool.true_and, Nat.ble_eq, Bool.and_eq_true, decide_eq_true_eq]
    exact ⟨by omega, by omega, rfl, loop⟩

end Go.Proofs.YtgbphddecpjlhaaGreatDoor.N
end
