/-
  The looker: lists of instructions, and those that have lists.
  The looker: any instructions, as the document says.
  The looker's function, and module.TypeOf; module.Check of the laws' module.
  VaAw: its call, run, in pieces.
  ValidDead: the law's module, and its function's body.
-/
import Derived.Test.YtgbphddecpjlhaaGreatDoorMM
import Derived.Test.YtgbphddecpjlhaaGreatDoorMH
import Derived.Test.YtgbphddecpjlhaaGreatDoorMF
import Derived.Test.YtgbphddecpjlhaaGreatDoorMG

section
set_option linter.unusedSimpArgs false
set_option linter.unusedVariables false
namespace Go.Proofs.YtgbphddecpjlhaaGreatDoor.N
open Go Go.Am

theorem popV_ok {q k n c c' m : Nat} {d d' : Bool} {f : Nat → VR} (h : popV q k n d f = .ok m d' c') : ∃ x, f x = .ok m d' c' := by
  unfold popV at h; split at h
  · cases h
  · exact ⟨_, h⟩

theorem endV_ok {q r n m c' : Nat} {d d' : Bool} {f : VR} (h : endV r n d q f = .ok m d' c') : f = .ok m d' c' := by
  unfold endV at h
  obtain ⟨x, hx⟩ := popV_ok (c := 0) h
  split at hx
  · cases hx
  · exact hx

theorem flatV_count {V : VEnv} {ls : List Nat} {op a : Int} {tg : List Int} {n m c c' : Nat} {d d' : Bool} (h : flatV V ls op a tg n d c = .ok m d' c') : c' = c := by
  unfold flatV at h
  split at h
  · split at h
    · cases h
    · obtain ⟨x, hx⟩ := popV_ok (c := 0) h
      cases hx; rfl
  split at h
  · split at h
    · cases h
    · obtain ⟨x, hx⟩ := popV_ok (c := 0) h
      obtain ⟨y, hy⟩ := popV_ok (c := 0) hx
      cases hy; rfl
  split at h
  · split at h
    · cases h
    · obtain ⟨x, hx⟩ := popV_ok (c := 0) h
      obtain ⟨y, hy⟩ := popV_ok (c := 0) hx
      cases hy; rfl
  split at h
  · obtain ⟨x, hx⟩ := popV_ok (c := 0) h
    cases hx; rfl
  split at h
  · split at h
    · cases h
    · obtain ⟨x, hx⟩ := popV_ok (c := 0) h
      cases hx; rfl
  split at h
  · split at h
    · cases h
    · obtain ⟨x, hx⟩ := popV_ok (c := 0) h
      obtain ⟨y, hy⟩ := popV_ok (c := 0) hx
      cases hy; rfl
  split at h
  · cases h
  · obtain ⟨x, hx⟩ := popV_ok (c := 0) h
    cases hx; rfl

mutual
theorem valI_count (V : VEnv) (ls : List Nat) : ∀ (x : Ins) (n : Nat) (d : Bool) (c m : Nat) (d' : Bool) (c' : Nat), valI V ls x n d c = .ok m d' c' → c ≤ c' ∧ c' + 1 ≤ c + numI x
  | .mk op r a b nn tg l e, n, d, c, m, d', c', h => by
    simp only [valI] at h
    simp only [numI]
    split at h
    · cases h; omega
    split at h
    · split at h
      · cases h
      · rename_i n1 d1 c1 h1
        have := valL_count V _ l 0 false c n1 d1 c1 h1
        have := endV_ok h
        cases this; omega
    split at h
    · obtain ⟨x, h⟩ := popV_ok (c := 0) h
      split at h
      · cases h
      · rename_i n1 d1 c1 h1
        have := valL_count V _ l 0 false c n1 d1 c1 h1
        have h := endV_ok h
        split at h
        · cases h
        · rename_i n2 d2 c2 h2
          have := valL_count V _ e 0 false c1 n2 d2 c2 h2
          have h := endV_ok h
          cases h; omega
    · have := flatV_count h
      omega
theorem valL_count (V : VEnv) (ls : List Nat) : ∀ (l : List Ins) (n : Nat) (d : Bool) (c m : Nat) (d' : Bool) (c' : Nat), valL V ls l n d c = .ok m d' c' → c ≤ c' ∧ c' ≤ c + numL l
  | [], n, d, c, m, d', c', h => by simp only [valL] at h; cases h; simp
  | x :: r, n, d, c, m, d', c', h => by
    simp only [valL] at h
    simp only [numL]
    split at h
    · cases h
    · rename_i n1 d1 c1 h1
      have := valI_count V ls x n d (c + 1) n1 d1 c1 h1
      have := valL_count V ls r n1 d1 c1 m d' c' h
      omega
end

theorem valL_cons (V : VEnv) (ls : List Nat) (x : Ins) (r : List Ins) (n : Nat) (d : Bool) (c : Nat) : valL V ls (x :: r) n d c = (valI V ls x n d (c + 1)).and fun n d c => valL V ls r n d c := by
  simp only [valL]
  cases valI V ls x n d (c + 1) <;> rfl

theorem iku : (IntKind.u32 == IntKind.u32) = true := rfl
theorem iki : (IntKind.i32 == IntKind.i32) = true := rfl

def resI (x : Ins) : Bool := decide (0 ≤ x.results ∧ x.results ≤ 1)

structure Fit (l : List Ins) (c k : Nat) : Prop where
  res : okL resI l = true
  wf : wfL l
  tag : tagL l ≤ 1000000000
  num : c + numL l ≤ 1000000000
  dep : k + depL 1 l ≤ 1000

section
variable {X : Lx} {V : VEnv} {ll : List Ins}

theorem labs_dead (o : List Fr) (t : Fr) (d : Bool) : labs (o ++ [⟨t.op, t.base, t.res, d⟩]) = labs (o ++ [t]) := by simp [labs]

def CL (X : Lx) (V : VEnv) (l : List Ins) : Prop := ∀ (R : Rw) (o : List Fr) (t : Fr) (n c : Nat), Fit l c (o.length + 1) → Good R o t n c → ∃ R', Run X 33 [aL l] R R' ∧ After o t R' (valL V (labs (o ++ [t])) l n t.dead c)
def CI (X : Lx) (V : VEnv) (o : List Fr) (t : Fr) (x : Ins) : Prop := ∀ (R : Rw) (d : Bool) (n c : Nat), c + numI x ≤ 1000000001 → Good R o ⟨t.op, t.base, t.res, d⟩ n c → R.h + 1 ≤ c → ∃ R', Run X 83 [aggX x, sI .i64 c] R R' ∧ After o t R' (valI V (labs (o ++ [t])) x n d c)

theorem bad_list {R : Rw} (he : R.e ≠ 0) (l : List Ins) (hl : l.length ≤ 1000000000) : Run X 33 [aL l] R R := by
  refine Does.settle (l0 := X.M.cells ++ [sI .i64 X.tP, sI .i64 X.tR, sI .u64 X.own, sI .i64 R.h, .ms 1 0 R.k 4 none, sI .i64 R.e, sI .i64 R.p, sI .i64 R.nx]) ?_ (Nat.le_refl 2)
  refine does_of_tree names (li0_tree X R R R R R R R R l) ?_
  simp only [li0Tree, Tree.ok, keep_map]
  have e0 : (R.e != 0) = true := by simpa using he
  cases l with
  | nil =>
    refine good_of_tree names (liF_tree X R R R R R R R R [] 0 0 0 0 0 0 [] [] []) ?_
    simp only [liFTree, Tree.ok, keep_map, List.length_nil]
    exact ⟨fun h => absurd h (by decide), fun _ => trivial⟩
  | cons x r =>
    obtain ⟨op, rs, a, b, nn, tg, ll, le⟩ := x
    have hg : (Ins.mk op rs a b nn tg ll le :: r)[0]? = some (.mk op rs a b nn tg ll le) := rfl
    obtain ⟨c0, c1, c2, c3, c4, c5, c6, c7⟩ := cells_at hg
    refine good_of_tree names (liF_tree X R R R R R R R R (.mk op rs a b nn tg ll le :: r) 0 op rs a b nn tg ll le) ?_
    have g1 : decide (((0 : Nat) : Int) < ((Ins.mk op rs a b nn tg ll le :: r).length : Int)) = true := by simp
    simp only [liFTree, Tree.ok, keep_map, g1, e0, Int.toNat_natCast, Nat.add_assoc, Nat.reduceAdd, c0, c1, c2, c3, c4, c5, c6, c7, isInt, isPs, pvInt, psLen, psSz, psCells, inB, ik, iku, iki, Bool.true_eq_false, false_implies, true_implies, true_and, and_true, Bool.and_true, Bool.and_eq_true, decide_eq_true_eq]
    exact ⟨by omega, rfl⟩

theorem list_loop {o : List Fr} {t : Fr} {xs : List Ins} (hx : xs.length ≤ 1000000000) (IH : ∀ x ∈ xs, CI X V o t x) :
    ∀ (m i : Nat), i + m = xs.length → ∀ (R : Rw) (v : VR), After o t R v → (∀ n d c, v = .ok n d c → c + numL (xs.drop i) ≤ 1000000000) →
      ∃ R', Am.Good Tryz.prog env (bodyCfg Tryz.prog env 33 0 [.mp 0 0, aL xs, sI .i64 xs.length, sI .i64 i] (memOut X R) 2 32) (.ret (.tup []) (memOut X R')) ∧ After o t R' (v.and fun n d c => valL V (labs (o ++ [t])) (xs.drop i) n d c) := by
  intro m
  induction m with
  | zero =>
    intro i hi R v hv _
    refine ⟨R, good_of_tree names (liL_tree X R R R R R R R R xs i 0 0 0 0 0 [] [] []) ?_, ?_⟩
    · have g1 : decide ((i : Int) < (xs.length : Int)) = false := by simp; omega
      simp only [liLTree, Tree.ok, keep_map, g1, Bool.false_eq_true, false_implies, true_implies, true_and]
    · rw [List.drop_eq_nil_of_le (by omega)]
      cases v with
      | bad e q => exact hv
      | ok n d c => exact hv
  | succ m ih =>
    intro i hi R v hv hb
    have hlt : i < xs.length := by omega
    have hgx : xs[i]? = some xs[i] := List.getElem?_eq_getElem hlt
    have hdr : xs.drop i = xs[i] :: xs.drop (i + 1) := List.drop_eq_getElem_cons hlt
    have hmem : xs[i] ∈ xs := List.getElem_mem hlt
    generalize xs[i] = x at *
    have hIH := IH x hmem
    obtain ⟨op, rs, a, b, nn, tg, ll, le⟩ := x
    obtain ⟨c0, c1, c2, c3, c4, c5, c6, c7⟩ := cells_at hgx
    have g1 : decide ((i : Int) < (xs.length : Int)) = true := by simp; omega
    have w1 : IntKind.i64.wrap ((i : Int) + 1) = ((i + 1 : Nat) : Int) := by rw [i64In (by omega) (by omega)]; rfl
    cases v with
    | bad e q =>
      have e0 : (R.e != 0) = true := by rw [hv.1]; simpa using hv.2.1
      refine ⟨R, good_of_tree names (liL_tree X R R R R R R R R xs i op rs a b nn tg ll le) ?_, hv⟩
      simp only [liLTree, Tree.ok, keep_map, g1, e0, Int.toNat_natCast, Nat.add_assoc, Nat.reduceAdd, c0, c1, c2, c3, c4, c5, c6, c7, isInt, isPs, pvInt, psLen, psSz, psCells, inB, ik, iku, iki, Bool.true_eq_false, false_implies, true_implies, true_and, and_true, Bool.and_true, Bool.and_eq_true, decide_eq_true_eq]
      exact ⟨by omega, rfl⟩
    | ok n d c =>
      have hbn := hb n d c rfl
      rw [hdr] at hbn
      have hn1 : 1 ≤ numI (.mk op rs a b nn tg ll le) := by simp only [numI]; omega
      simp only [numL] at hbn
      have hg : Good ⟨R.h, R.k, R.cs, R.e, R.p, R.nx + 1⟩ o ⟨t.op, t.base, t.res, d⟩ n (c + 1) := by
        obtain ⟨⟨q1, q2, q3, q4⟩, q5, q6, q8, q7⟩ := hv
        exact ⟨⟨q1, q2, q3, q4⟩, q5, by simp only; omega, q8, by simp only; omega⟩
      obtain ⟨R1, r1, a1⟩ := hIH _ d n (c + 1) (by omega) hg (by have := hv.le; simp only; omega)
      obtain ⟨R', gR, aR⟩ := ih (i + 1) (by omega) R1 _ a1 (fun n' d' c' hv' => by
        have := valI_count V _ _ _ _ _ _ _ _ hv'
        omega)
      refine ⟨R', good_of_tree names (liL_tree X R R1 R R R R R R xs i op rs a b nn tg ll le) ?_, ?_⟩
      · have e0 : (R.e != 0) = false := by have := hv.e; simp [this]
        have hnx : R.nx = (c : Int) := hv.nx
        have w2 : IntKind.i64.wrap (R.nx + 1) = R.nx + 1 := i64In (by omega) (by omega)
        have hcc : ((c + 1 : Nat) : Int) = R.nx + 1 := by omega
        rw [hcc] at r1
        simp only [liLTree, Tree.ok, keep_map, g1, e0, w1, w2, Int.toNat_natCast, Nat.add_assoc, Nat.reduceAdd, c0, c1, c2, c3, c4, c5, c6, c7, isInt, isPs, pvInt, psLen, psSz, psCells, inB, ik, iku, iki, Bool.false_eq_true, Bool.true_eq_false, false_implies, true_implies, true_and, and_true, Bool.and_true, Bool.and_eq_true, decide_eq_true_eq]
        exact ⟨by omega, rfl, r1, gR⟩
      · rw [hdr]
        show After o t R' (valL V (labs (o ++ [t])) (.mk op rs a b nn tg ll le :: xs.drop (i + 1)) n d c)
        rw [valL_cons]
        exact aR

theorem list_of {o : List Fr} {t : Fr} {xs : List Ins} (hx : xs.length ≤ 1000000000) (IH : ∀ x ∈ xs, CI X V o t x) {R : Rw} {n c : Nat} (hc : c + numL xs ≤ 1000000000) (g : Good R o t n c) :
    ∃ R', Run X 33 [aL xs] R R' ∧ After o t R' (valL V (labs (o ++ [t])) xs n t.dead c) := by
  cases xs with
  | nil =>
    refine ⟨R, ?_, by simp only [valL]; exact g⟩
    refine Does.settle (l0 := X.M.cells ++ [sI .i64 X.tP, sI .i64 X.tR, sI .u64 X.own, sI .i64 R.h, .ms 1 0 R.k 4 none, sI .i64 R.e, sI .i64 R.p, sI .i64 R.nx]) ?_ (Nat.le_refl 2)
    refine does_of_tree names (li0_tree X R R R R R R R R []) ?_
    simp only [li0Tree, Tree.ok, keep_map]
    refine good_of_tree names (liF_tree X R R R R R R R R [] 0 0 0 0 0 0 [] [] []) ?_
    simp only [liFTree, Tree.ok, keep_map, List.length_nil]
    exact ⟨fun h => absurd h (by decide), fun _ => trivial⟩
  | cons x r =>
    have hIH := IH x (by simp)
    obtain ⟨op, rs, a, b, nn, tg, ll, le⟩ := x
    have hn1 : 1 ≤ numI (.mk op rs a b nn tg ll le) := by simp only [numI]; omega
    simp only [numL] at hc
    have hgx : (Ins.mk op rs a b nn tg ll le :: r)[0]? = some (.mk op rs a b nn tg ll le) := rfl
    obtain ⟨c0, c1, c2, c3, c4, c5, c6, c7⟩ := cells_at hgx
    have hg : Good ⟨R.h, R.k, R.cs, R.e, R.p, R.nx + 1⟩ o ⟨t.op, t.base, t.res, t.dead⟩ n (c + 1) := by
      obtain ⟨⟨q1, q2, q3, q4⟩, q5, q6, q8, q7⟩ := g
      exact ⟨⟨q1, q2, q3, q4⟩, q5, by simp only; omega, q8, by simp only; omega⟩
    obtain ⟨R1, r1, a1⟩ := hIH _ t.dead n (c + 1) (by omega) hg (by have := g.le; simp only; omega)
    obtain ⟨R', gR, aR⟩ := list_loop (V := V) hx IH r.length 1 (by simp; omega) R1 _ a1 (fun n' d' c' hv' => by
      have := valI_count V _ _ _ _ _ _ _ _ hv'
      simp only [List.drop_succ_cons, List.drop_zero]
      omega)
    refine ⟨R', does_of_tree names (li0_tree X R R R R R R R R _) ?_, ?_⟩
    · simp only [li0Tree, Tree.ok, keep_map]
      refine good_of_tree names (liF_tree X R R1 R R R R R R (.mk op rs a b nn tg ll le :: r) 0 op rs a b nn tg ll le) ?_
      have g1 : decide (((0 : Nat) : Int) < ((Ins.mk op rs a b nn tg ll le :: r).length : Int)) = true := by simp
      have e0 : (R.e != 0) = false := by have := g.e; simp [this]
      have hnx : R.nx = (c : Int) := g.nx
      have w2 : IntKind.i64.wrap (R.nx + 1) = R.nx + 1 := i64In (by omega) (by omega)
      have hcc : ((c + 1 : Nat) : Int) = R.nx + 1 := by omega
      rw [hcc] at r1
      simp only [liFTree, Tree.ok, keep_map, g1, e0, w2, Int.toNat_natCast, Nat.add_assoc, Nat.reduceAdd, c0, c1, c2, c3, c4, c5, c6, c7, isInt, isPs, pvInt, psLen, psSz, psCells, inB, ik, iku, iki, Bool.false_eq_true, Bool.true_eq_false, false_implies, true_implies, true_and, and_true, Bool.and_true, Bool.and_eq_true, decide_eq_true_eq]
      exact ⟨by omega, rfl, r1, rfl, gR⟩
    · rw [valL_cons]
      exact aR

theorem after_dead {o : List Fr} {t : Fr} {d : Bool} {R : Rw} {v : VR} (h : After o ⟨t.op, t.base, t.res, d⟩ R v) : After o t R v := by
  cases v with
  | bad e q => exact h
  | ok n d c => exact h

theorem inner_run (hcl : CL X V ll) {R : Rw} {o : List Fr} {t : Fr} {n c : Nat} (g : Good R o t n c) {op r : Int} (q : Nat) (hop : op = 2 ∨ op = 3 ∨ op = 4 ∨ op = 5) (hr : 0 ≤ r) (hr1 : r ≤ 1) (hh : R.h + 1 ≤ c)
    (hfit : Fit ll c (o.length + 2)) : ∃ R1 R2 R3, Run X 134 [sI .i64 op, sI .i64 r, sI .i64 q] R R1 ∧ Does Tryz.prog env 134 [.mp 0 0, sI .i64 op, sI .i64 r, sI .i64 q] (memIn X R) (.tup []) [lkB X.M X.tP X.tR X.own R1.h 2 R1.k R1.e R1.p R1.nx, frB R.cs, frB R1.cs] ∧
      Run X 33 [aL ll] R1 R2 ∧ Run X 34 [sI .i64 q] R2 R3 ∧ After o t R3 ((valL V ((if op = 3 then 0 else r.toNat) :: labs (o ++ [t])) ll 0 false c).and fun n1 d1 c1 => endV r.toNat n1 d1 q (.ok (n + r.toNat) t.dead c1)) := by
  have hd := hfit.dep
  obtain ⟨R1, r1, k1, g1⟩ := enter_run (X := X) g q hop hr hr1 (by omega)
  obtain ⟨R2, r2, a2⟩ := hcl R1 (o ++ [t]) ⟨op, R.h, r, false⟩ 0 c (by rw [List.length_append]; exact hfit) g1
  rw [labs_app] at a2
  dsimp only at a2
  cases hv : valL V ((if op = 3 then 0 else r.toNat) :: labs (o ++ [t])) ll 0 false c with
  | bad e p =>
    rw [hv] at a2
    have hb : R2.e ≠ 0 := by rw [a2.1]; exact a2.2.1
    exact ⟨R1, R2, R2, r1, k1, r2, leaE hb, a2⟩
  | ok n1 d1 c1 =>
    rw [hv] at a2
    have hc1 := valL_count V _ _ _ _ _ _ _ _ hv
    have hnum := hfit.num
    obtain ⟨R3, r3, a3⟩ := leave_run (X := X) (s := t) a2 q (by simp only; omega) (by omega)
    refine ⟨R1, R2, R3, r1, k1, r2, r3, ?_⟩
    have hn : (R.h - t.base).toNat = n := by have := g.h; omega
    simp only [hn] at a3
    exact a3

end
end Go.Proofs.YtgbphddecpjlhaaGreatDoor.N
end

section
set_option linter.unusedSimpArgs false
set_option linter.unusedVariables false
namespace Go.Proofs.YtgbphddecpjlhaaGreatDoor.N
open Go Go.Am

theorem okL_mem {p : Ins → Bool} : ∀ {l : List Ins}, okL p l = true → ∀ x ∈ l, okI p x = true
  | [], _, _, hx => by cases hx
  | y :: r, h, x, hx => by
    simp only [okL, Bool.and_eq_true] at h
    cases hx with
    | head => exact h.1
    | tail _ hx => exact okL_mem h.2 x hx

theorem wfL_mem : ∀ {l : List Ins}, wfL l → ∀ x ∈ l, wfI x
  | [], _, _, hx => by cases hx
  | y :: r, h, x, hx => by
    simp only [wfL] at h
    cases hx with
    | head => exact h.1
    | tail _ hx => exact wfL_mem h.2 x hx

theorem tagL_mem : ∀ {l : List Ins}, ∀ x ∈ l, tagI x ≤ tagL l
  | [], _, hx => by cases hx
  | y :: r, x, hx => by
    simp only [tagL]
    cases hx with
    | head => omega
    | tail _ hx => have := tagL_mem x hx; omega

theorem depL_mem {d : Nat} : ∀ {l : List Ins}, ∀ x ∈ l, depI d x ≤ depL d l
  | [], _, hx => by cases hx
  | y :: r, x, hx => by
    simp only [depL]
    cases hx with
    | head => omega
    | tail _ hx => have := depL_mem (d := d) x hx; omega

theorem depL_in (l : List Ins) : depL 1 l + 1 ≤ max 1 (depL 2 l) := by
  by_cases h : l = []
  · subst h; simp [depL]
  · have h2 : depL 2 l = depL 1 l + 1 := depL_shift 1 l h
    omega

theorem endV_and {r n q a x : Nat} {d b : Bool} {f : VR} : endV r n d q f = (endV r n d q (.ok a b x)).and fun _ _ _ => f := by
  unfold endV popV
  split
  · rfl
  · dsimp only
    split <;> rfl

theorem and_and {v : VR} {F G : Nat → Bool → Nat → VR} : (v.and F).and G = v.and fun n d c => (F n d c).and G := by cases v <;> rfl

section
variable {X : Lx} {V : VEnv}

theorem instr_run (hv : VOk X V) {o : List Fr} {t : Fr} (x : Ins) (hl : CL X V x.l) (he : CL X V x.e) (hok : okI resI x = true) (hwf : wfI x) (htag : tagI x ≤ 1000000000) (hdep : o.length + 1 + depI 1 x ≤ 1000) : CI X V o t x := by
  obtain ⟨op, r, a, b, nn, tg, ll, le⟩ := x
  intro R d n c hnum g hh
  simp only [Ins.l, Ins.e] at hl he
  simp only [okI, Bool.and_eq_true] at hok
  obtain ⟨hres, hokl, hoke⟩ := hok
  obtain ⟨hr0, hr1⟩ : 0 ≤ r ∧ r ≤ 1 := of_decide_eq_true hres
  simp only [wfI] at hwf
  obtain ⟨_, _, wa, _, _, ⟨wt1, wt2⟩, ⟨_, wl⟩, _, we⟩ := hwf
  simp only [tagI] at htag
  simp only [depI, Nat.reduceAdd] at hdep
  simp only [numI] at hnum
  have ha := inU32 wa
  have htg : ∀ x ∈ tg, 0 ≤ x ∧ x < 4294967296 := fun x hx => by have := inU32 (wt2 x hx); omega
  have d1 := depL_in ll
  have d2 := depL_in le
  have hlab := labs_dead o t d
  have fitl : Fit ll c (o.length + 2) := ⟨hokl, wl, by omega, by omega, by omega⟩
  show ∃ R', Run X 83 [aggI op r a b nn tg ll le, sI .i64 c] R R' ∧ After o t R' (valI V (labs (o ++ [t])) (.mk op r a b nn tg ll le) n d c)
  by_cases o0 : op = 0
  · subst o0
    obtain ⟨R1, r1, a1, _⟩ := dead_run (X := X) g c
    refine ⟨R1, ins_dead r1, ?_⟩
    simp only [valI, if_true]
    exact a1
  by_cases o23 : op = 2 ∨ op = 3
  · obtain ⟨R1, R2, R3, r1, _, r2, r3, a3⟩ := inner_run hl g (op := op) (r := r) c (by omega) hr0 hr1 hh fitl
    refine ⟨R3, ins_opens (by omega) (opn_of (by omega) r1 r2 r3), ?_⟩
    rw [hlab] at a3
    have e1 : valI V (labs (o ++ [t])) (.mk op r a b nn tg ll le) n d c = (valL V ((if op = 3 then 0 else r.toNat) :: labs (o ++ [t])) ll 0 false c).and fun n1 d1 c1 => endV r.toNat n1 d1 c (.ok (n + r.toNat) d c1) := by
      simp only [valI]
      rw [if_neg o0, if_pos o23]
      cases valL V ((if op = 3 then 0 else r.toNat) :: labs (o ++ [t])) ll 0 false c <;> rfl
    rw [e1]
    exact after_dead a3
  by_cases o4 : op = 4
  · subst o4
    obtain ⟨R1, r1, a1, h1, x1⟩ := pop_run (X := X) g 1 c
    have e1 : valI V (labs (o ++ [t])) (.mk 4 r a b nn tg ll le) n d c = (popV c 1 n d fun m => .ok m d c).and fun n0 _ _ => (valL V (r.toNat :: labs (o ++ [t])) ll 0 false c).and fun n1 d1 c1 =>
        endV r.toNat n1 d1 c ((valL V (r.toNat :: labs (o ++ [t])) le 0 false c1).and fun n2 d2 c2 => endV r.toNat n2 d2 c (.ok (n0 + r.toNat) d c2)) := by
      simp only [valI]
      rw [if_neg o0, if_neg o23, if_true, popV_and]
      congr 1
    rw [e1]
    have hcnt : ∀ n0 d0 c0, (popV c 1 n d fun m => .ok m d c) = .ok n0 d0 c0 → d0 = d ∧ c0 = c := fun n0 d0 c0 hp => by
      obtain ⟨m, hm⟩ := popV_ok (c := 0) hp
      cases hm; exact ⟨rfl, rfl⟩
    dsimp only at a1
    generalize hvp : (popV c 1 n d fun m => VR.ok m d c) = vp at a1 hcnt
    cases vp with
    | bad e q =>
      have hb : R1.e ≠ 0 := by rw [a1.1]; exact a1.2.1
      exact ⟨R1, ins_opens (by omega) (opB_of hb r1 (entE hb) (bad_list hb ll (by have := numL_length ll; omega)) (leaE hb)), a1⟩
    | ok n0 d0 c0 =>
      obtain ⟨rfl, rfl⟩ := hcnt _ _ _ rfl
      have hnx := g.nx
      obtain ⟨R2, R3, R4, r2, k2, r3, r4, a4⟩ := inner_run hl a1 (op := 4) (r := r) c0 (by omega) hr0 hr1 (by omega) fitl
      rw [labs_dead, labs_dead, if_neg (by decide)] at a4
      simp only [VR.and]
      show ∃ R', _ ∧ After o t R' ((valL V (r.toNat :: labs (o ++ [t])) ll 0 false c0).and fun n1 d1 c1 => endV r.toNat n1 d1 c0 ((valL V (r.toNat :: labs (o ++ [t])) le 0 false c1).and fun n2 d2 c2 => endV r.toNat n2 d2 c0 (.ok (n0 + r.toNat) d0 c2)))
      have e2 : ((valL V (r.toNat :: labs (o ++ [t])) ll 0 false c0).and fun n1 d1 c1 => endV r.toNat n1 d1 c0 ((valL V (r.toNat :: labs (o ++ [t])) le 0 false c1).and fun n2 d2 c2 => endV r.toNat n2 d2 c0 (.ok (n0 + r.toNat) d0 c2))) =
          ((valL V (r.toNat :: labs (o ++ [t])) ll 0 false c0).and fun n1 d1 c1 => endV r.toNat n1 d1 c0 (.ok (n0 + r.toNat) d0 c1)).and fun _ _ c1 => (valL V (r.toNat :: labs (o ++ [t])) le 0 false c1).and fun n2 d2 c2 => endV r.toNat n2 d2 c0 (.ok (n0 + r.toNat) d0 c2) := by
        rw [and_and]
        cases valL V (r.toNat :: labs (o ++ [t])) ll 0 false c0 with
        | bad e q => rfl
        | ok n1 d1 c1 =>
          simp only [VR.and]
          rw [endV_and (a := n0 + r.toNat) (b := d0) (x := c1)]
          unfold endV popV
          split
          · rfl
          · dsimp only
            split <;> rfl
      rw [e2]
      have hc4 : ∀ n4 d4 c4, ((valL V (r.toNat :: labs (o ++ [t])) ll 0 false c0).and fun n1 d1 c1 => endV r.toNat n1 d1 c0 (.ok (n0 + r.toNat) d0 c1)) = .ok n4 d4 c4 → c0 ≤ c4 ∧ c4 ≤ c0 + numL ll := by
        intro n4 d4 c4 h4
        cases hvl : valL V (r.toNat :: labs (o ++ [t])) ll 0 false c0 with
        | bad e q => rw [hvl] at h4; cases h4
        | ok n1 d1 c1 =>
          rw [hvl] at h4
          have := endV_ok h4
          cases this
          exact valL_count V _ _ _ _ _ _ _ _ hvl
      have a4 := after_dead a4
      generalize hv4 : ((valL V (r.toNat :: labs (o ++ [t])) ll 0 false c0).and fun n1 d1 c1 => endV r.toNat n1 d1 c0 (.ok (n0 + r.toNat) d0 c1)) = v4 at a4 hc4
      have a4' : After o t R4 v4 := by
        rw [← hv4]; rw [← hv4] at a4; exact after_dead a4
      cases v4 with
      | bad e q =>
        have hb : R4.e ≠ 0 := by rw [a4'.1]; exact a4'.2.1
        exact ⟨R4, ins_opens (by omega) (opG_of (R5 := R4) (R6 := R4) r1 k2 r3 r4 (fun _ => rfl) (fun h => absurd h hb) (fun h => absurd h hb) (fun h => absurd h hb)), a4'⟩
      | ok n4 d4 c4 =>
        obtain ⟨hc41, hc42⟩ := hc4 _ _ _ rfl
        have gS : Good ⟨R1.h, R1.k, R1.cs, R4.e, R4.p, R4.nx⟩ o ⟨t.op, t.base, t.res, d0⟩ n0 c4 := ⟨⟨a1.h, a1.k, a1.cs, a1.ok⟩, a4'.e, a4'.nx, a4'.p0, by have := a1.le; simp only; omega⟩
        obtain ⟨R5, R6, R7, r5, _, r6, r7, a7⟩ := inner_run he gS (op := 5) (r := r) c0 (by omega) hr0 hr1 (by simp only; omega) ⟨hoke, we, by omega, by omega, by omega⟩
        rw [labs_dead, if_neg (by decide)] at a7
        exact ⟨R7, ins_opens (by omega) (opG_of r1 k2 r3 r4 (fun h => absurd a4'.e h) (fun _ => r5) (fun _ => r6) (fun _ => r7)), after_dead a7⟩
  have e0 : valI V (labs (o ++ [t])) (.mk op r a b nn tg ll le) n d c = flatV V (labs (o ++ [t])) op a tg n d c := by
    simp only [valI]
    rw [if_neg o0, if_neg o23, if_neg o4]
  rw [e0, ← hlab]
  obtain ⟨a, rfl⟩ := Int.eq_ofNat_of_zero_le ha.1
  have ha' : a < 4294967296 := by omega
  have hc9 : c ≤ 1000000000 := by omega
  have fin : ∀ {R' : Rw} {v : VR}, Run X 83 [aggI op r a b nn tg ll le, sI .i64 c] R R' ∧ After o ⟨t.op, t.base, t.res, d⟩ R' v → Run X 83 [aggI op r a b nn tg ll le, sI .i64 c] R R' ∧ After o t R' v := fun h => ⟨h.1, after_dead h.2⟩
  by_cases o12 : op = 12
  · subst o12
    obtain ⟨R', h⟩ := br_run (V := V) (r := r) (b := b) (nn := nn) (tg := tg) (ll := ll) (le := le) g a ha'
    exact ⟨R', fin h⟩
  by_cases o13 : op = 13
  · subst o13
    obtain ⟨R', h⟩ := brif_run (V := V) (r := r) (b := b) (nn := nn) (tg := tg) (ll := ll) (le := le) g hh hc9 a ha'
    exact ⟨R', fin h⟩
  by_cases o14 : op = 14
  · subst o14
    obtain ⟨R', h1, h2⟩ := table_run (V := V) (r := r) (a := a) (b := b) (nn := nn) (tg := tg) (ll := ll) (le := le) g ⟨by omega, by omega⟩ htg (by omega)
    exact ⟨R', fin ⟨ins_table h1, h2⟩⟩
  by_cases o15 : op = 15
  · subst o15
    obtain ⟨R', h⟩ := ret_run (r := r) (b := b) (nn := nn) (tg := tg) (ll := ll) (le := le) hv g a
    exact ⟨R', fin h⟩
  by_cases o16 : op = 16
  · subst o16
    obtain ⟨R', h⟩ := call_run (r := r) (b := b) (nn := nn) (tg := tg) (ll := ll) (le := le) hv g hh hc9 a ha'
    exact ⟨R', fin h⟩
  by_cases o17 : op = 17
  · subst o17
    obtain ⟨R', h⟩ := ind_run (r := r) (b := b) (nn := nn) (tg := tg) (ll := ll) (le := le) hv g hh hc9 a ha'
    exact ⟨R', fin h⟩
  · obtain ⟨R', h1, h2⟩ := plain_run (r := r) (b := b) (nn := nn) (tg := tg) (ll := ll) (le := le) hv g hh hc9 (op := op) ha'
    refine ⟨R', fin ⟨ins_plain (by omega) h1, ?_⟩⟩
    have e1 : flatV V (labs (o ++ [⟨t.op, t.base, t.res, d⟩])) op a tg n d c = if nameV V op a ≠ 0 then .bad (nameV V op a) c else popV c (takesF op) n d fun n1 => .ok (n1 + tellsF op) d c := by
      unfold flatV
      rw [if_neg o12, if_neg o13, if_neg o14, if_neg o15, if_neg o16, if_neg o17]
    rw [e1]
    exact h2

theorem list_run (hv : VOk X V) : ∀ l : List Ins, CL X V l := by
  refine ins_rec fun l hl => ?_
  intro R o t n c hf g
  refine list_of (V := V) (by have := numL_length l; have := hf.num; omega) (fun x hx => ?_) hf.num g
  obtain ⟨h1, h2⟩ := hl x hx
  have := hf.tag
  have := hf.dep
  have ht := tagL_mem x hx
  have hd := depL_mem (d := 1) x hx
  exact instr_run hv x h1 h2 (okL_mem hf.res x hx) (wfL_mem hf.wf x hx) (by omega) (by omega)

end
end Go.Proofs.YtgbphddecpjlhaaGreatDoor.N
end

section
set_option linter.unusedSimpArgs false
set_option linter.unusedVariables false
namespace Go.Proofs.YtgbphddecpjlhaaGreatDoor.N
open Go Go.Am

def loC (X : Lx) (n : Nat) (P Q lo : Int) (l : List Ins) (R1 R2 : Rw) (f : FuncId) (_ : List AV) (m : Mem) : Option (AV × Mem) := cond (Nat.beq f 31) (some (.tup [.agg [sI .i64 X.tP, sI .i64 X.tR], sB true], m)) (cond (Nat.beq f 33) (some (.tup [], memOut X R1)) (cond (Nat.beq f 34) (some (.tup [], memOut X R2)) none))
def loS (X : Lx) (n : Nat) (P Q lo : Int) (l : List Ins) (R1 R2 : Rw) : FuncId → Nat → Nat → Option (AV → AV) := shapeAt [(16, 7, 5, .agg [sI .i64 lo, aL l]), (16, 8, 8, sI .u64 X.own)]
def tyS (M : Md) (a : Nat) (T P Q : Int) : FuncId → Nat → Nat → Option (AV → AV) := shapeAt [(31, 5, 5, sI .i64 T), (31, 7, 5, sI .i64 T), (31, 10, 4, .agg [sI .i64 P, sI .i64 Q])]
def bs (l : List UInt8) : PV := .sc (.string ⟨l.toArray⟩)
def con0 : List PV := [.sc (.int .i64 65), .sc (.int .i64 0), .sc (.int .u32 0), .sc (.int .u32 0), .sc (.int .i32 0), .ps 0 1 [], .ps 0 8 [], .ps 0 8 []]
def rmD (tp tr lo : Int) (l : List Ins) : Md := ⟨3, [sP 1, sP 1, sP 0, sP 0, sP tp, sP tr], 1, [bs [104, 111, 115, 116], bs [102], sP 0], 2, [sP 1, sP 0, .ps 0 8 [], sP 2, sP lo, .ps l.length 8 (encL l)],
  1, [.sc (.int .u32 1), .sc (.int .u32 0), .sc (.bool false)], 1, [.sc (.int .u32 1), .sc (.int .u32 0), .sc (.bool false)], 2, [.sc (.bool true), .ps 1 8 con0, .sc (.bool false), .ps 1 8 con0], 0, [], false, 0, 0, [], 0, []⟩
def boC (M : Md) (n : Nat) (e e2 p2 : Int) (f : FuncId) (_ : List AV) (m : Mem) : Option (AV × Mem) := cond (Nat.beq f 15) (some (sI .i64 e, m)) (cond (Nat.beq f 16) (some (.tup [sI .i64 e2, sI .i64 p2], m)) none)
noncomputable def lokOrc (X : Lx) (n : Nat) (P Q lo : Int) (l : List Ins) (R1 : Rw) (R2 : Rw) : Orc := orcS (loC X n P Q lo l R1 R2) noLed [] [(16, 0, 0), (32, 2, 3), (32, 0, 0)] [(16, 7, 3), (16, 7, 5)] (loS X n P Q lo l R1 R2)
def lokSc : Sc := (.fork .fin (.fork (.lit .fin) .fin))
noncomputable def lokTree (X : Lx) (n : Nat) (P Q lo : Int) (l : List Ins) (R1 : Rw) (R2 : Rw) : Tree :=
 (.test (decide ((↑n : Int) ≥ (↑X.M.fnN : Int)))
 (.out (.ret (.tup [sI .i64 6, sI .i64 0]) []))
 (.call ⟨31, [.agg X.M.cells, sI .u32 (IntKind.u32.wrap (IntKind.i64.wrap ((↑X.M.imN : Int) + (↑n : Int))))], [], .tup [.agg [sI .i64 X.tP, sI .i64 X.tR], sB true], []⟩
 (.must (inB (↑n : Int) X.M.fnN && true && true)
 (.must (isInt IntKind.i64 (X.M.fnC.getD ((↑n : Int).toNat * 3 + 1) PV.bad) && (isPs (X.M.fnC.getD ((↑n : Int).toNat * 3 + 1 + 1) PV.bad) && true) && true)
 (.need (AV.agg [sI .i64 (pvInt (X.M.fnC.getD ((↑n : Int).toNat * 3 + 1) PV.bad)), AV.p (PV.ps (psLen (X.M.fnC.getD ((↑n : Int).toNat * 3 + 1 + 1) PV.bad)) (psSz (X.M.fnC.getD ((↑n : Int).toNat * 3 + 1 + 1) PV.bad)) (psCells (X.M.fnC.getD ((↑n : Int).toNat * 3 + 1 + 1) PV.bad)))] = AV.agg [sI IntKind.i64 lo, aL l])
 (.need (sI .u64 (IntKind.u64.wrap (IntKind.u64.wrap X.tP + IntKind.u64.wrap lo)) = sI IntKind.u64 X.own)
 (.test (decide (X.tR < 0))
 (.call ⟨33, [.mp 0 0, .p (.ps l.length 8 (encL l))], [.ac (cellsD X.M ++ [sI .i64 X.tP, sI .i64 X.tR, sI .u64 X.own, sI .i64 0, .os none 0 0 [], sI .i64 0, sI .i64 0, sI .i64 0])], .tup [], [.ac (cellsD X.M ++ [sI .i64 X.tP, sI .i64 X.tR, sI .u64 X.own, sI .i64 R1.h, .ms 2 0 R1.k 4 none, sI .i64 R1.e, sI .i64 R1.p, sI .i64 R1.nx]), .dead, .ob (ObK.gr 135 true) (List.map AV.p R1.cs)]⟩
 (.call ⟨34, [.mp 0 0, sI .i64 0], [.ac (cellsD X.M ++ [sI .i64 X.tP, sI .i64 X.tR, sI .u64 X.own, sI .i64 R1.h, .ms 1 0 R1.k 4 none, sI .i64 R1.e, sI .i64 R1.p, sI .i64 R1.nx]), .ob (ObK.gr 135 true) (List.map keepP (List.map keepP (List.map AV.p R1.cs)))], .tup [], [.ac (cellsD X.M ++ [sI .i64 X.tP, sI .i64 X.tR, sI .u64 X.own, sI .i64 R2.h, .ms 2 0 R2.k 4 none, sI .i64 R2.e, sI .i64 R2.p, sI .i64 R2.nx]), .dead, .ob (ObK.gr 135 true) (List.map AV.p R2.cs)]⟩
 (.out (.ret (.tup [sI .i64 R2.e, sI .i64 R2.p]) []))))
 (.test (decide (X.tR > 1))
 (.call ⟨33, [.mp 0 0, .p (.ps l.length 8 (encL l))], [.ac (cellsD X.M ++ [sI .i64 X.tP, sI .i64 X.tR, sI .u64 X.own, sI .i64 0, .os none 0 0 [], sI .i64 0, sI .i64 0, sI .i64 0])], .tup [], [.ac (cellsD X.M ++ [sI .i64 X.tP, sI .i64 X.tR, sI .u64 X.own, sI .i64 R1.h, .ms 2 0 R1.k 4 none, sI .i64 R1.e, sI .i64 R1.p, sI .i64 R1.nx]), .dead, .ob (ObK.gr 135 true) (List.map AV.p R1.cs)]⟩
 (.call ⟨34, [.mp 0 0, sI .i64 0], [.ac (cellsD X.M ++ [sI .i64 X.tP, sI .i64 X.tR, sI .u64 X.own, sI .i64 R1.h, .ms 1 0 R1.k 4 none, sI .i64 R1.e, sI .i64 R1.p, sI .i64 R1.nx]), .ob (ObK.gr 135 true) (List.map keepP (List.map keepP (List.map AV.p R1.cs)))], .tup [], [.ac (cellsD X.M ++ [sI .i64 X.tP, sI .i64 X.tR, sI .u64 X.own, sI .i64 R2.h, .ms 2 0 R2.k 4 none, sI .i64 R2.e, sI .i64 R2.p, sI .i64 R2.nx]), .dead, .ob (ObK.gr 135 true) (List.map AV.p R2.cs)]⟩
 (.out (.ret (.tup [sI .i64 R2.e, sI .i64 R2.p]) []))))
 (.call ⟨33, [.mp 0 0, .p (.ps l.length 8 (encL l))], [.ac (cellsD X.M ++ [sI .i64 X.tP, sI .i64 X.tR, sI .u64 X.own, sI .i64 0, .ms 1 0 1 4 none, sI .i64 0, sI .i64 0, sI .i64 0]), .ob (ObK.gr 135 true) [sI .i64 0, sI .i64 0, sI .i64 X.tR, sB false]], .tup [], [.ac (cellsD X.M ++ [sI .i64 X.tP, sI .i64 X.tR, sI .u64 X.own, sI .i64 R1.h, .ms 2 0 R1.k 4 none, sI .i64 R1.e, sI .i64 R1.p, sI .i64 R1.nx]), .dead, .ob (ObK.gr 135 true) (List.map AV.p R1.cs)]⟩
 (.call ⟨34, [.mp 0 0, sI .i64 0], [.ac (cellsD X.M ++ [sI .i64 X.tP, sI .i64 X.tR, sI .u64 X.own, sI .i64 R1.h, .ms 1 0 R1.k 4 none, sI .i64 R1.e, sI .i64 R1.p, sI .i64 R1.nx]), .ob (ObK.gr 135 true) (List.map keepP (List.map keepP (List.map AV.p R1.cs)))], .tup [], [.ac (cellsD X.M ++ [sI .i64 X.tP, sI .i64 X.tR, sI .u64 X.own, sI .i64 R2.h, .ms 2 0 R2.k 4 none, sI .i64 R2.e, sI .i64 R2.p, sI .i64 R2.nx]), .dead, .ob (ObK.gr 135 true) (List.map AV.p R2.cs)]⟩
 (.out (.ret (.tup [sI .i64 R2.e, sI .i64 R2.p]) []))))))))))))
theorem lok_tree (X : Lx) (n : Nat) (P Q lo : Int) (l : List Ins) (R1 : Rw) (R2 : Rw) : growF Tryz.prog env (lokOrc X n P Q lo l R1 R2) 1000000 16 ([AV.agg X.M.cells, sI IntKind.i64 (↑n : Int)]) ([]) lokSc = lokTree X n P Q lo l R1 R2 := by kernel_rfl

noncomputable def tyoOrc (M : Md) (a : Nat) (T P Q : Int) : Orc := orcS noCall noLed [] [(31, 0, 0), (31, 8, 3), (31, 0, 2), (31, 0, 1)] [(31, 5, 3), (31, 5, 5), (31, 10, 3), (31, 10, 4), (31, 7, 3), (31, 7, 5)] (tyS M a T P Q)
def tyoSc : Sc := (.fork (.fork (.lit .fin) .fin) (.fork (.fork (.lit .fin) .fin) (.lit (.lit .fin))))
noncomputable def tyoTree (M : Md) (a : Nat) (T P Q : Int) : Tree :=
 (.test (decide (IntKind.i64.wrap (IntKind.i64.wrap (↑a : Int) - (↑M.imN : Int)) < 0))
 (.must (inB (IntKind.i64.wrap (↑a : Int)) M.imN && true && true)
 (.must (isInt IntKind.i64 (M.imC.getD ((IntKind.i64.wrap (↑a : Int)).toNat * 3 + 2) PV.bad) && true)
 (.need (sI .i64 (pvInt (M.imC.getD ((IntKind.i64.wrap (↑a : Int)).toNat * 3 + 2) PV.bad)) = sI IntKind.i64 T)
 (.test (decide (T < 0))
 (.out (.ret (.tup [.agg [sI .i64 0, sI .i64 0], sB false]) []))
 (.test (decide (T ≥ (↑M.tyN : Int)))
 (.out (.ret (.tup [.agg [sI .i64 0, sI .i64 0], sB false]) []))
 (.must (inB T M.tyN && true && true)
 (.must (isInt IntKind.i64 (M.tyC.getD (T.toNat * 2) PV.bad) && (isInt IntKind.i64 (M.tyC.getD (T.toNat * 2 + 1) PV.bad) && true) && true)
 (.need (AV.agg [sI .i64 (pvInt (M.tyC.getD (T.toNat * 2) PV.bad)), sI .i64 (pvInt (M.tyC.getD (T.toNat * 2 + 1) PV.bad))] = AV.agg [sI IntKind.i64 P, sI IntKind.i64 Q])
 (.out (.ret (.tup [.agg [sI .i64 P, sI .i64 Q], sB true]) []))))))))))
 (.test (decide (IntKind.i64.wrap (IntKind.i64.wrap (↑a : Int) - (↑M.imN : Int)) < (↑M.fnN : Int)))
 (.must (inB (IntKind.i64.wrap (IntKind.i64.wrap (↑a : Int) - (↑M.imN : Int))) M.fnN && true && true)
 (.must (isInt IntKind.i64 (M.fnC.getD ((IntKind.i64.wrap (IntKind.i64.wrap (↑a : Int) - (↑M.imN : Int))).toNat * 3 + 0) PV.bad) && true)
 (.need (sI .i64 (pvInt (M.fnC.getD ((IntKind.i64.wrap (IntKind.i64.wrap (↑a : Int) - (↑M.imN : Int))).toNat * 3 + 0) PV.bad)) = sI IntKind.i64 T)
 (.test (decide (T < 0))
 (.out (.ret (.tup [.agg [sI .i64 0, sI .i64 0], sB false]) []))
 (.test (decide (T ≥ (↑M.tyN : Int)))
 (.out (.ret (.tup [.agg [sI .i64 0, sI .i64 0], sB false]) []))
 (.must (inB T M.tyN && true && true)
 (.must (isInt IntKind.i64 (M.tyC.getD (T.toNat * 2) PV.bad) && (isInt IntKind.i64 (M.tyC.getD (T.toNat * 2 + 1) PV.bad) && true) && true)
 (.need (AV.agg [sI .i64 (pvInt (M.tyC.getD (T.toNat * 2) PV.bad)), sI .i64 (pvInt (M.tyC.getD (T.toNat * 2 + 1) PV.bad))] = AV.agg [sI IntKind.i64 P, sI IntKind.i64 Q])
 (.out (.ret (.tup [.agg [sI .i64 P, sI .i64 Q], sB true]) []))))))))))
 (.out (.ret (.tup [.agg [sI .i64 0, sI .i64 0], sB false]) []))))
theorem tyo_tree (M : Md) (a : Nat) (T P Q : Int) : growF Tryz.prog env (tyoOrc M a T P Q) 1000000 31 ([AV.agg M.cells, sI IntKind.u32 (↑a : Int)]) ([]) tyoSc = tyoTree M a T P Q := by kernel_rfl

noncomputable def bodOrc (M : Md) (n : Nat) (e e2 p2 : Int) : Orc := orcL (boC M n e e2 p2) noLed [] [(8, 0, 0)] []
def bodSc : Sc := .fin
noncomputable def bodTree (M : Md) (n : Nat) (e e2 p2 : Int) : Tree :=
 (.call ⟨15, [.agg [.p (.ps M.tyN 2 M.tyC), .p (.ps M.imN 3 M.imC), .p (.ps M.fnN 3 M.fnC), .p (.ps M.taN 3 M.taC), .p (.ps M.meN 3 M.meC), .p (.ps M.glN 2 M.glC), .p (.ps M.exN 3 M.exC), .p (.sc (.bool M.st)), sI .u32 M.sn, .p (.ps M.elN 2 M.elC), .p (.ps M.daN 2 M.daC)]], [], sI .i64 e, []⟩
 (.test (e != 0)
 (.out (.ret (.tup [sI .i64 e, sI .i64 0]) []))
 (.call ⟨16, [.agg [.p (.ps M.tyN 2 M.tyC), .p (.ps M.imN 3 M.imC), .p (.ps M.fnN 3 M.fnC), .p (.ps M.taN 3 M.taC), .p (.ps M.meN 3 M.meC), .p (.ps M.glN 2 M.glC), .p (.ps M.exN 3 M.exC), .p (.sc (.bool M.st)), sI .u32 M.sn, .p (.ps M.elN 2 M.elC), .p (.ps M.daN 2 M.daC)], sI .i64 (↑n : Int)], [], .tup [sI .i64 e2, sI .i64 p2], []⟩
 (.out (.ret (.tup [sI .i64 e2, sI .i64 p2]) [])))))
theorem bod_tree (M : Md) (n : Nat) (e e2 p2 : Int) : growF Tryz.prog env (bodOrc M n e e2 p2) 1000000 8 ([AV.agg M.cells, sI IntKind.i64 (↑n : Int)]) ([]) bodSc = bodTree M n e e2 p2 := by kernel_rfl

theorem typeOf_some {M : Md} {a : Nat} {T P Q : Int} (ha : a < 4294967296) (hi : M.imN ≤ 1000000000) (hf : M.fnN ≤ 1000000000) (hT : 0 ≤ T ∧ T < M.tyN)
    (hat : (a < M.imN ∧ M.imC.getD (a * 3 + 2) .bad = .sc (.int .i64 T)) ∨ (M.imN ≤ a ∧ a - M.imN < M.fnN ∧ M.fnC.getD ((a - M.imN) * 3 + 0) .bad = .sc (.int .i64 T)))
    (hP : M.tyC.getD (T.toNat * 2) .bad = .sc (.int .i64 P)) (hQ : M.tyC.getD (T.toNat * 2 + 1) .bad = .sc (.int .i64 Q)) :
    Does Tryz.prog env 31 [.agg M.cells, sI .u32 a] [] (.tup [.agg [sI .i64 P, sI .i64 Q], sB true]) [] := by
  refine does_of_tree names (tyo_tree M a T P Q) ?_
  have w1 : IntKind.i64.wrap (a : Int) = a := i64In (by omega) (by omega)
  have w2 : IntKind.i64.wrap ((a : Int) - M.imN) = a - M.imN := i64In (by omega) (by omega)
  have t1 : decide (T < 0) = false := by simp; omega
  have t2 : decide (T ≥ (M.tyN : Int)) = false := by simp; omega
  rcases hat with ⟨h1, h2⟩ | ⟨h1, h2, h3⟩
  · have g1 : decide ((a : Int) - M.imN < 0) = true := by simp; omega
    simp only [tyoTree, Tree.ok, w1, w2, g1, t1, t2, h2, hP, hQ, Int.toNat_natCast, isInt, pvInt, ik, inB, Bool.false_eq_true, Bool.true_eq_false, false_implies, true_implies, true_and, and_true, Bool.and_true, Bool.and_eq_true, decide_eq_true_eq]
    omega
  · have g1 : decide ((a : Int) - M.imN < 0) = false := by simp; omega
    have g2 : decide ((a : Int) - M.imN < M.fnN) = true := by simp; omega
    have e1 : ((a : Int) - M.imN).toNat = a - M.imN := by omega
    simp only [tyoTree, Tree.ok, w1, w2, g1, g2, t1, t2, e1, h3, hP, hQ, isInt, pvInt, ik, inB, Bool.false_eq_true, Bool.true_eq_false, false_implies, true_implies, true_and, and_true, Bool.and_true, Bool.and_eq_true, decide_eq_true_eq]
    omega

theorem typeOf_none {M : Md} {a : Nat} (ha : a < 4294967296) (hi : M.imN ≤ 1000000000) (hf : M.fnN ≤ 1000000000) (hat : M.imN + M.fnN ≤ a) :
    Does Tryz.prog env 31 [.agg M.cells, sI .u32 a] [] (.tup [.agg [sI .i64 0, sI .i64 0], sB false]) [] := by
  refine does_of_tree names (tyo_tree M a 0 0 0) ?_
  have w1 : IntKind.i64.wrap (a : Int) = a := i64In (by omega) (by omega)
  have w2 : IntKind.i64.wrap ((a : Int) - M.imN) = a - M.imN := i64In (by omega) (by omega)
  have g1 : decide ((a : Int) - M.imN < 0) = false := by simp; omega
  have g2 : decide ((a : Int) - M.imN < M.fnN) = false := by simp; omega
  simp only [tyoTree, Tree.ok, w1, w2, g1, g2, Bool.false_eq_true, false_implies, true_implies, and_true]

theorem look_does {X : Lx} {V : VEnv} (hv : VOk X V) {n : Nat} {lo : Int} {l : List Ins} (hn : n < X.M.fnN) (hf : X.M.fnN ≤ 1000000000) (hi : X.M.imN ≤ 1000000000) (hlo : X.M.fnC.getD (n * 3 + 1) .bad = .sc (.int .i64 lo)) (hl : X.M.fnC.getD (n * 3 + 2) .bad = .ps l.length 8 (encL l))
    (hp : 0 ≤ X.tP ∧ X.tP ≤ 1000000) (hlo0 : 0 ≤ lo ∧ lo ≤ 1000000) (how : X.own = X.tP + lo) (hty : Does Tryz.prog env 31 [.agg X.M.cells, sI .u32 (X.M.imN + n : Nat)] [] (.tup [.agg [sI .i64 X.tP, sI .i64 X.tR], sB true]) [])
    (hfit : Fit l 0 1) : Does Tryz.prog env 16 [.agg X.M.cells, sI .i64 n] [] (.tup [sI .i64 (bodyV V l).1, sI .i64 ((bodyV V l).2 : Nat)]) [] := by
  have hret := hv.ret
  have hret1 := hv.ret1
  have g0 : Good ⟨0, 1, frC 0 0 X.tR false, 0, 0, 0⟩ [] ⟨0, 0, X.tR, false⟩ 0 0 := by
    refine ⟨⟨rfl, rfl, ⟨[], rfl⟩, ?_⟩, rfl, rfl, rfl, by simp⟩
    exact ⟨rfl, rfl, by simp only; omega, by simp only; omega, trivial, by simp, by simp, by simp⟩
  obtain ⟨R1, r1, a1⟩ := list_run hv l _ [] ⟨0, 0, X.tR, false⟩ 0 0 hfit g0
  have hlab : labs ([] ++ [(⟨0, 0, X.tR, false⟩ : Fr)]) = [V.ret] := by simp [labs, hret]
  rw [hlab] at a1
  have hres : X.tR.toNat = V.ret := by omega
  have key : ∃ R2, Run X 34 [sI .i64 (0 : Nat)] R1 R2 ∧ R2.e = (bodyV V l).1 ∧ R2.p = ((bodyV V l).2 : Nat) := by
    unfold bodyV
    dsimp only at a1
    cases hvl : valL V [V.ret] l 0 false 0 with
    | bad e p =>
      rw [hvl] at a1
      exact ⟨R1, leaE (by rw [a1.1]; exact a1.2.1), a1.1, a1.2.2⟩
    | ok m d c =>
      rw [hvl] at a1
      obtain ⟨R2, r2, h2⟩ := leave_end (X := X) a1 0
      refine ⟨R2, r2, ?_⟩
      simp only [hres] at h2
      have hp0 := a1.p0
      cases hev : endV V.ret m d 0 (.ok 0 false 0) with
      | bad e p => rw [hev] at h2; dsimp only; rw [hev]; exact h2
      | ok m' d' c' => rw [hev] at h2; dsimp only; rw [hev]; exact ⟨h2.1, by rw [h2.2, hp0]; rfl⟩
  obtain ⟨R2, r2, e2, p2⟩ := key
  rw [← e2, ← p2]
  refine does_of_tree names (lok_tree X n X.tP X.tR lo l R1 R2) ?_
  have w1 : IntKind.i64.wrap ((X.M.imN : Int) + n) = ((X.M.imN + n : Nat) : Int) := by rw [i64In (by omega) (by omega)]; omega
  have w2 : IntKind.u32.wrap ((X.M.imN + n : Nat) : Int) = ((X.M.imN + n : Nat) : Int) := u32In (by omega) (by omega)
  have w3 : IntKind.u64.wrap X.tP = X.tP := u64In (by omega) (by omega)
  have w4 : IntKind.u64.wrap lo = lo := u64In (by omega) (by omega)
  have w5 : IntKind.u64.wrap (X.tP + lo) = X.own := by rw [u64In (by omega) (by omega), how]
  have g1 : decide ((n : Int) ≥ (X.M.fnN : Int)) = false := by simp; omega
  have g2 : decide (X.tR < 0) = false := by simp; omega
  have g3 : decide (X.tR > 1) = false := by simp; omega
  simp only [lokTree, Tree.ok, keep_map, w1, w2, w3, w4, w5, g1, g2, g3, Int.toNat_natCast, Nat.add_assoc, Nat.reduceAdd, hlo, hl, isInt, isPs, pvInt, psLen, psSz, psCells, ik, inB, Bool.false_eq_true, Bool.true_eq_false, false_implies, true_implies, true_and, and_true, Bool.and_true, Bool.and_eq_true, decide_eq_true_eq]
  exact ⟨hty, by omega, r1, r2⟩

end Go.Proofs.YtgbphddecpjlhaaGreatDoor.N
end

section
namespace Go.Proofs.YtgbphddecpjlhaaGreatDoor.N
open Go Go.Am

def envC : Env where
  glob := tabAt tabs
  wr := wrs
  keep _ _ := none

def Awc0 : Call' := ⟨169, [.p (.sc (.string ⟨#[101, 113, 122, 32, 101, 113, 32, 110, 101, 32, 108, 116, 95, 115, 32, 108, 116, 95, 117, 32, 103, 116, 95, 115, 32, 103, 116, 95, 117, 32, 108, 101, 95, 115, 32, 108, 101, 95, 117, 32, 103, 101, 95, 115, 32, 103, 101, 95, 117]⟩))], [], .p (.ps 11 1 [.sc (.string ⟨#[101, 113, 122]⟩), .sc (.string ⟨#[101, 113]⟩), .sc (.string ⟨#[110, 101]⟩), .sc (.string ⟨#[108, 116, 95, 115]⟩), .sc (.string ⟨#[108, 116, 95, 117]⟩), .sc (.string ⟨#[103, 116, 95, 115]⟩), .sc (.string ⟨#[103, 116, 95, 117]⟩), .sc (.string ⟨#[108, 101, 95, 115]⟩), .sc (.string ⟨#[108, 101, 95, 117]⟩), .sc (.string ⟨#[103, 101, 95, 115]⟩), .sc (.string ⟨#[103, 101, 95, 117]⟩)]), []⟩
theorem Awd0 : Does Tryz.prog envC Awc0.g Awc0.args Awc0.m Awc0.v Awc0.m' := does_fast names (K := []) calls_nil (n := 10000000) (by kernel_rfl)
def AwK1 : List Call' := Awc0 :: []
theorem AwK1ok : Calls' Tryz.prog envC AwK1 := calls_cons Awd0 calls_nil

def Awc1 : Call' := ⟨169, [.p (.sc (.string ⟨#[99, 108, 122, 32, 99, 116, 122, 32, 112, 111, 112, 99, 110, 116, 32, 97, 100, 100, 32, 115, 117, 98, 32, 109, 117, 108, 32, 100, 105, 118, 95, 115, 32, 100, 105, 118, 95, 117, 32, 114, 101, 109, 95, 115, 32, 114, 101, 109, 95, 117, 32, 97, 110, 100, 32, 111, 114, 32, 120, 111, 114, 32, 115, 104, 108, 32, 115, 104, 114, 95, 115, 32, 115, 104, 114, 95, 117, 32, 114, 111, 116, 108, 32, 114, 111, 116, 114]⟩))], [], .p (.ps 18 1 [.sc (.string ⟨#[99, 108, 122]⟩), .sc (.string ⟨#[99, 116, 122]⟩), .sc (.string ⟨#[112, 111, 112, 99, 110, 116]⟩), .sc (.string ⟨#[97, 100, 100]⟩), .sc (.string ⟨#[115, 117, 98]⟩), .sc (.string ⟨#[109, 117, 108]⟩), .sc (.string ⟨#[100, 105, 118, 95, 115]⟩), .sc (.string ⟨#[100, 105, 118, 95, 117]⟩), .sc (.string ⟨#[114, 101, 109, 95, 115]⟩), .sc (.string ⟨#[114, 101, 109, 95, 117]⟩), .sc (.string ⟨#[97, 110, 100]⟩), .sc (.string ⟨#[111, 114]⟩), .sc (.string ⟨#[120, 111, 114]⟩), .sc (.string ⟨#[115, 104, 108]⟩), .sc (.string ⟨#[115, 104, 114, 95, 115]⟩), .sc (.string ⟨#[115, 104, 114, 95, 117]⟩), .sc (.string ⟨#[114, 111, 116, 108]⟩), .sc (.string ⟨#[114, 111, 116, 114]⟩)]), []⟩
theorem Awd1 : Does Tryz.prog envC Awc1.g Awc1.args Awc1.m Awc1.v Awc1.m' := does_fast names (K := AwK1) AwK1ok (n := 10000000) (by kernel_rfl)
def AwK2 : List Call' := Awc1 :: AwK1
theorem AwK2ok : Calls' Tryz.prog envC AwK2 := calls_cons Awd1 AwK1ok

def Awc2 : Call' := ⟨95, [.p (.ps 1 8 [.sc (.int .i64 32), .sc (.int .i64 0), .sc (.int .u32 0), .sc (.int .u32 0), .sc (.int .i32 0), .ps 0 0 [], .ps 0 0 [], .ps 0 0 []])], [], .p (.sc (.int .i64 0)), []⟩
theorem Awd2 : Does Tryz.prog envC Awc2.g Awc2.args Awc2.m Awc2.v Awc2.m' := does_fast names (K := AwK2) AwK2ok (n := 10000000) (by kernel_rfl)
def AwK3 : List Call' := Awc2 :: AwK2
theorem AwK3ok : Calls' Tryz.prog envC AwK3 := calls_cons Awd2 AwK2ok

def Awc3 : Call' := ⟨15, [.agg [.os none 1 2 [.sc (.int .i64 1), .sc (.int .i64 1)], .os none 0 0 [], .os none 1 3 [.sc (.int .i64 0), .sc (.int .i64 0), .ps 1 8 [.sc (.int .i64 32), .sc (.int .i64 0), .sc (.int .u32 0), .sc (.int .u32 0), .sc (.int .i32 0), .ps 0 0 [], .ps 0 0 [], .ps 0 0 []]], .os none 0 0 [], .os none 0 0 [], .os none 0 0 [], .os none 0 0 [], .p (.sc (.bool false)), .p (.sc (.int .u32 0)), .os none 0 0 [], .os none 0 0 []]], [], .p (.sc (.int .i64 0)), []⟩
theorem Awd3 : Does Tryz.prog envC Awc3.g Awc3.args Awc3.m Awc3.v Awc3.m' := does_fast names (K := AwK3) AwK3ok (n := 10000000) (by kernel_rfl)
def AwK4 : List Call' := Awc3 :: AwK3
theorem AwK4ok : Calls' Tryz.prog envC AwK4 := calls_cons Awd3 AwK3ok

def Awc4 : Call' := ⟨16, [.agg [.os none 1 2 [.sc (.int .i64 1), .sc (.int .i64 1)], .os none 0 0 [], .os none 1 3 [.sc (.int .i64 0), .sc (.int .i64 0), .ps 1 8 [.sc (.int .i64 32), .sc (.int .i64 0), .sc (.int .u32 0), .sc (.int .u32 0), .sc (.int .i32 0), .ps 0 0 [], .ps 0 0 [], .ps 0 0 []]], .os none 0 0 [], .os none 0 0 [], .os none 0 0 [], .os none 0 0 [], .p (.sc (.bool false)), .p (.sc (.int .u32 0)), .os none 0 0 [], .os none 0 0 []], .p (.sc (.int .i64 0))], [], .tup [.p (.sc (.int .i64 0)), .p (.sc (.int .i64 0))], []⟩
theorem Awd4 : Does Tryz.prog envC Awc4.g Awc4.args Awc4.m Awc4.v Awc4.m' := does_fast names (K := AwK4) AwK4ok (n := 10000000) (by kernel_rfl)
def AwK5 : List Call' := Awc4 :: AwK4
theorem AwK5ok : Calls' Tryz.prog envC AwK5 := calls_cons Awd4 AwK4ok

def Awc5 : Call' := ⟨95, [.p (.ps 1 8 [.sc (.int .i64 32), .sc (.int .i64 0), .sc (.int .u32 1), .sc (.int .u32 0), .sc (.int .i32 0), .ps 0 0 [], .ps 0 0 [], .ps 0 0 []])], [], .p (.sc (.int .i64 0)), []⟩
theorem Awd5 : Does Tryz.prog envC Awc5.g Awc5.args Awc5.m Awc5.v Awc5.m' := does_fast names (K := AwK5) AwK5ok (n := 10000000) (by kernel_rfl)
def AwK6 : List Call' := Awc5 :: AwK5
theorem AwK6ok : Calls' Tryz.prog envC AwK6 := calls_cons Awd5 AwK5ok

def Awc6 : Call' := ⟨15, [.agg [.os none 1 2 [.sc (.int .i64 1), .sc (.int .i64 1)], .os none 0 0 [], .os none 1 3 [.sc (.int .i64 0), .sc (.int .i64 0), .ps 1 8 [.sc (.int .i64 32), .sc (.int .i64 0), .sc (.int .u32 1), .sc (.int .u32 0), .sc (.int .i32 0), .ps 0 0 [], .ps 0 0 [], .ps 0 0 []]], .os none 0 0 [], .os none 0 0 [], .os none 0 0 [], .os none 0 0 [], .p (.sc (.bool false)), .p (.sc (.int .u32 0)), .os none 0 0 [], .os none 0 0 []]], [], .p (.sc (.int .i64 0)), []⟩
theorem Awd6 : Does Tryz.prog envC Awc6.g Awc6.args Awc6.m Awc6.v Awc6.m' := does_fast names (K := AwK6) AwK6ok (n := 10000000) (by kernel_rfl)
def AwK7 : List Call' := Awc6 :: AwK6
theorem AwK7ok : Calls' Tryz.prog envC AwK7 := calls_cons Awd6 AwK6ok

def Awc7 : Call' := ⟨15, [.agg [.os none 1 2 [.sc (.int .i64 1), .sc (.int .i64 1)], .os none 0 0 [], .os none 1 3 [.sc (.int .i64 0), .sc (.int .i64 0), .ps 0 0 []], .os none 0 0 [], .os none 0 0 [], .os none 0 0 [], .os none 0 0 [], .p (.sc (.bool false)), .p (.sc (.int .u32 0)), .os none 0 0 [], .os none 0 0 []]], [], .p (.sc (.int .i64 0)), []⟩
theorem Awd7 : Does Tryz.prog envC Awc7.g Awc7.args Awc7.m Awc7.v Awc7.m' := does_fast names (K := AwK7) AwK7ok (n := 10000000) (by kernel_rfl)
def AwK8 : List Call' := Awc7 :: AwK7
theorem AwK8ok : Calls' Tryz.prog envC AwK8 := calls_cons Awd7 AwK7ok

def Awc8 : Call' := ⟨95, [.p (.ps 1 8 [.sc (.int .i64 65), .sc (.int .i64 0), .sc (.int .u32 0), .sc (.int .u32 0), .sc (.int .i32 0), .ps 0 0 [], .ps 0 0 [], .ps 0 0 []])], [], .p (.sc (.int .i64 0)), []⟩
theorem Awd8 : Does Tryz.prog envC Awc8.g Awc8.args Awc8.m Awc8.v Awc8.m' := does_fast names (K := AwK8) AwK8ok (n := 10000000) (by kernel_rfl)
def AwK9 : List Call' := Awc8 :: AwK8
theorem AwK9ok : Calls' Tryz.prog envC AwK9 := calls_cons Awd8 AwK8ok

def Awc9 : Call' := ⟨30, [.agg [.os none 2 2 [.sc (.int .i64 1), .sc (.int .i64 1), .sc (.int .i64 0), .sc (.int .i64 0)], .os none 1 3 [.sc (.string ⟨#[104, 111, 115, 116]⟩), .sc (.string ⟨#[102]⟩), .sc (.int .i64 0)], .os none 1 3 [.sc (.int .i64 1), .sc (.int .i64 0), .ps 0 0 []], .os none 1 3 [.sc (.int .u32 1), .sc (.int .u32 0), .sc (.bool false)], .os none 1 3 [.sc (.int .u32 1), .sc (.int .u32 0), .sc (.bool false)], .os none 2 2 [.sc (.bool true), .ps 1 8 [.sc (.int .i64 65), .sc (.int .i64 0), .sc (.int .u32 0), .sc (.int .u32 0), .sc (.int .i32 0), .ps 0 0 [], .ps 0 0 [], .ps 0 0 []], .sc (.bool false), .ps 1 8 [.sc (.int .i64 65), .sc (.int .i64 0), .sc (.int .u32 0), .sc (.int .u32 0), .sc (.int .i32 0), .ps 0 0 [], .ps 0 0 [], .ps 0 0 []]], .os none 0 0 [], .p (.sc (.bool false)), .p (.sc (.int .u32 0)), .os none 0 0 [], .os none 0 0 []]], [], .p (.sc (.int .i64 0)), []⟩
theorem Awd9 : Does Tryz.prog envC Awc9.g Awc9.args Awc9.m Awc9.v Awc9.m' := does_fast names (K := AwK9) AwK9ok (n := 10000000) (by kernel_rfl)
def AwK10 : List Call' := Awc9 :: AwK9
theorem AwK10ok : Calls' Tryz.prog envC AwK10 := calls_cons Awd9 AwK9ok

def Awc10 : Call' := ⟨10, [.agg [.os none 2 2 [.sc (.int .i64 1), .sc (.int .i64 1), .sc (.int .i64 0), .sc (.int .i64 0)], .os none 1 3 [.sc (.string ⟨#[104, 111, 115, 116]⟩), .sc (.string ⟨#[102]⟩), .sc (.int .i64 0)], .os none 1 3 [.sc (.int .i64 1), .sc (.int .i64 0), .ps 0 0 []], .os none 1 3 [.sc (.int .u32 1), .sc (.int .u32 0), .sc (.bool false)], .os none 1 3 [.sc (.int .u32 1), .sc (.int .u32 0), .sc (.bool false)], .os none 2 2 [.sc (.bool true), .ps 1 8 [.sc (.int .i64 65), .sc (.int .i64 0), .sc (.int .u32 0), .sc (.int .u32 0), .sc (.int .i32 0), .ps 0 0 [], .ps 0 0 [], .ps 0 0 []], .sc (.bool false), .ps 1 8 [.sc (.int .i64 65), .sc (.int .i64 0), .sc (.int .u32 0), .sc (.int .u32 0), .sc (.int .i32 0), .ps 0 0 [], .ps 0 0 [], .ps 0 0 []]], .os none 0 0 [], .p (.sc (.bool false)), .p (.sc (.int .u32 0)), .os none 0 0 [], .os none 0 0 []]], [], .agg [.p (.sc (.int .i64 0)), .p (.sc (.int .i64 0)), .p (.sc (.int .i64 0)), .p (.sc (.int .i64 0))], []⟩
theorem Awd10 : Does Tryz.prog envC Awc10.g Awc10.args Awc10.m Awc10.v Awc10.m' := does_fast names (K := AwK10) AwK10ok (n := 10000000) (by kernel_rfl)
def AwK11 : List Call' := Awc10 :: AwK10
theorem AwK11ok : Calls' Tryz.prog envC AwK11 := calls_cons Awd10 AwK10ok

theorem Awdoes : Does Tryz.prog envC 12 [] [] (.p (.sc (.bool true))) [] := does_fast names (K := AwK11) AwK11ok (n := 10000000) (by kernel_rfl)

end Go.Proofs.YtgbphddecpjlhaaGreatDoor.N
end

section
set_option linter.unusedSimpArgs false
set_option linter.unusedVariables false
namespace Go.Proofs.YtgbphddecpjlhaaGreatDoor.N
open Go Go.Am

theorem Ale.agg {l l' : List AV} (h : All2 Ale l l') : Ale (.agg l) (.agg l') := fun g w v hv => by
  cases hv with
  | agg _ cs hl hc =>
    have hv : VAs g w l cs.toList := All2.of_get hl hc
    clear hl hc
    rw [VA.aggs]
    generalize cs.toList = vs at hv
    induction l generalizing l' vs with
    | nil => cases l' <;> cases vs <;> first | trivial | exact h.elim | exact hv.elim
    | cons a l ih =>
      cases l' with
      | nil => exact h.elim
      | cons b l' => cases vs with
        | nil => exact hv.elim
        | cons x vs => exact ⟨h.1 g w x hv.1, ih h.2 vs hv.2⟩

def rX (tp tr lo : Nat) (l : List Ins) : Lx := ⟨rmD tp tr lo l, tp, tr, (tp : Int) + lo⟩
def rV (tp tr lo : Nat) : VEnv where
  ty a := if a = 0 then some (1, 1) else if a = 1 then some (0, 0) else if a = 2 then some (tp, tr) else none
  ind a := if a = 0 then some (1, 1) else if a = 1 then some (0, 0) else if a = 2 then some (tp, tr) else none
  glob := [true, false]
  mem := true
  own := tp + lo
  ret := tr

theorem rV_ok {tp tr lo : Nat} {l : List Ins} (h1 : tr ≤ 1) (h2 : tp ≤ 1000000) (h3 : lo ≤ 1000000) : VOk (rX tp tr lo l) (rV tp tr lo) where
  ret := rfl
  ret1 := h1
  own := rfl
  own1 := by show tp + lo ≤ 1000000000; omega
  ty a ha := by
    by_cases a0 : a = 0
    · subst a0
      exact ⟨Nat.le_refl 1, typeOf_some (T := 0) (P := 1) (Q := 1) (by omega) (of_decide_eq_true rfl) (of_decide_eq_true rfl) (of_decide_eq_true rfl) (.inl ⟨of_decide_eq_true rfl, rfl⟩) rfl rfl⟩
    by_cases a1 : a = 1
    · subst a1
      exact ⟨Nat.zero_le 1, typeOf_some (T := 1) (P := 0) (Q := 0) (by omega) (of_decide_eq_true rfl) (of_decide_eq_true rfl) (of_decide_eq_true rfl) (.inr ⟨of_decide_eq_true rfl, of_decide_eq_true rfl, rfl⟩) rfl rfl⟩
    by_cases a2 : a = 2
    · subst a2
      exact ⟨h1, typeOf_some (T := 2) (P := tp) (Q := tr) (by omega) (of_decide_eq_true rfl) (of_decide_eq_true rfl) (of_decide_eq_true rfl) (.inr ⟨of_decide_eq_true rfl, of_decide_eq_true rfl, rfl⟩) rfl rfl⟩
    · have e : (rV tp tr lo).ty a = none := by
        show (if (a : Int) = 0 then _ else if (a : Int) = 1 then _ else if (a : Int) = 2 then _ else none) = none
        rw [if_neg (by omega), if_neg (by omega), if_neg (by omega)]
      rw [e]
      exact typeOf_none ha (of_decide_eq_true rfl) (of_decide_eq_true rfl) (by show 1 + 2 ≤ a; omega)
  tyN := of_decide_eq_true rfl
  ind a := by
    by_cases ha : 0 < (rX tp tr lo l).M.taN ∧ a < (rX tp tr lo l).M.tyN
    · rw [if_pos ha]
      have ha : a < 3 := ha.2
      match a, ha with
      | 0, _ => exact ⟨1, 1, rfl, Nat.le_refl 1, rfl, rfl⟩
      | 1, _ => exact ⟨0, 0, rfl, Nat.zero_le 1, rfl, rfl⟩
      | 2, _ => exact ⟨tp, tr, rfl, h1, rfl, rfl⟩
    · rw [if_neg ha]
      have ha : ¬ a < 3 := fun q => ha ⟨(Nat.zero_lt_one : 0 < 1), q⟩
      show (if (a : Int) = 0 then _ else if (a : Int) = 1 then _ else if (a : Int) = 2 then _ else none) = none
      rw [if_neg (by omega), if_neg (by omega), if_neg (by omega)]
  glN := rfl
  glM := of_decide_eq_true rfl
  gl a b h := by
    match a, h with
    | 0, h => cases h; rfl
    | 1, h => cases h; rfl
    | a + 2, h => cases h
  me := rfl

theorem rlook {tp tr lo : Nat} {l : List Ins} (h1 : tr ≤ 1) (h2 : tp ≤ 1000000) (h3 : lo ≤ 1000000) (hf : Fit l 0 1) :
    Does Tryz.prog env 16 [.agg (rmD tp tr lo l).cells, sI .i64 1] [] (.tup [sI .i64 (bodyV (rV tp tr lo) l).1, sI .i64 ((bodyV (rV tp tr lo) l).2 : Nat)]) [] := by
  have hty := (rV_ok (l := l) h1 h2 h3).ty 2 (of_decide_eq_true rfl)
  exact look_does (X := rX tp tr lo l) (rV_ok h1 h2 h3) (n := 1) (lo := lo) (l := l) (of_decide_eq_true rfl) (of_decide_eq_true rfl) (of_decide_eq_true rfl) rfl rfl ⟨by show (0 : Int) ≤ tp; omega, by show (tp : Int) ≤ 1000000; omega⟩ ⟨by omega, by omega⟩ rfl hty.2 hf

def mcF (ck : Int) : Int := if ck = 141 then 141 else if ck = 2 then 2 else 0

theorem conIns_eq : aL [.mk 65 0 0 0 0 [] [] []] = .p (.ps 1 8 con0) := rfl

theorem chkP (l : List Ins) (h : numL l ≤ 100000000000) : Does Tryz.prog env 95 [aL l] [] (sI .i64 (checkF mayI l)) [] := check_does mayI_does l h

theorem ckNil : checkF mayI [] = 0 := rfl
theorem ckCon : checkF mayI [.mk 65 0 0 0 0 [] [] []] = 0 := by decide +kernel

theorem mayI_res {x : Ins} (h : mayI x = true) : resI x = true := by
  obtain ⟨op, r, a, b, nn, tg, ll, le⟩ := x
  unfold mayI mayF at h
  simp only [Bool.and_eq_true, Bool.not_eq_true', decide_eq_false_iff_not] at h
  obtain ⟨_, h1, h2, _⟩ := h
  show decide (0 ≤ r ∧ r ≤ 1) = true
  rw [decide_eq_true_eq]
  omega

mutual
theorem okI_mono {p q : Ins → Bool} (h : ∀ x, p x = true → q x = true) : ∀ x : Ins, okI p x = true → okI q x = true
  | .mk op r a b n tags l e, hx => by
    simp only [okI, Bool.and_eq_true] at hx ⊢
    exact ⟨h _ hx.1, okL_mono h l hx.2.1, okL_mono h e hx.2.2⟩
theorem okL_mono {p q : Ins → Bool} (h : ∀ x, p x = true → q x = true) : ∀ l : List Ins, okL p l = true → okL q l = true
  | [], _ => rfl
  | x :: r, hx => by
    simp only [okL, Bool.and_eq_true] at hx ⊢
    exact ⟨okI_mono h x hx.1, okL_mono h r hx.2⟩
end

theorem fit_of {l : List Ins} (hw : wfL l) (h : mcF (checkF mayI l) = 0) : Fit l 0 1 := by
  by_cases h1 : okL mayI l = false
  · rw [show checkF mayI l = 2 by unfold checkF; rw [if_pos h1]] at h
    exact absurd h (by decide)
  by_cases h2 : 262144 < numL l ∨ 16384 < tagL l ∨ 900 < depL 1 l
  · rw [show checkF mayI l = 141 by unfold checkF; rw [if_neg h1, if_pos h2]] at h
    exact absurd h (by decide)
  · exact ⟨okL_mono (fun x => mayI_res) l (by simpa using h1), hw, by omega, by omega, by omega⟩

def flat0 (op : Int) : List PV := [.sc (.int .i64 op), .sc (.int .i64 0), .sc (.int .u32 0), .sc (.int .u32 0), .sc (.int .i32 0), .ps 0 0 [], .ps 0 0 [], .ps 0 0 []]

end Go.Proofs.YtgbphddecpjlhaaGreatDoor.N
end
