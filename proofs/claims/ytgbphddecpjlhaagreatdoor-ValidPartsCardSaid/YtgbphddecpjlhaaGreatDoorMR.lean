/-
  The looker: tables of labels; lists.
  The looker: lists of instructions, and those that have lists.
  The looker: any instructions, as the document says.
-/
import Derived.Test.YtgbphddecpjlhaaGreatDoorMQ
import Derived.Test.YtgbphddecpjlhaaGreatDoorMH

section
set_option linter.unusedSimpArgs false
namespace Go.Proofs.YtgbphddecpjlhaaGreatDoor.N
open Go Go.Am

section
variable {X : Lx} {V : VEnv} {R : Rw} {o : List Fr} {t : Fr} {n c : Nat}
variable {r a b nn : Int} {tg : List Int} {ll le : List Ins}

theorem Stand.bad (g : Stand R o t n) (e q : Int) : Stand (badR R e q) o t n := ⟨g.h, g.k, g.cs, g.ok⟩

/-- Fine so far, or the first error. -/
def okR (R : Rw) (fine : Bool) (e q : Int) : Rw := if fine = true then R else badR R e q

theorem lab_step (g : Stand R o t n) (he : R.e = 0) (fine : Bool) (x : Int) (hx : 0 ≤ x ∧ x < 4294967296) (q : Nat) :
    Ask X 109 [sI .u32 x, sI .i64 q] (sI .i64 ((labs (o ++ [t])).getD x.toNat 0 : Nat)) (okR R fine 6 q) (okR R (fine && decide (x < (o ++ [t]).length)) 6 q) := by
  obtain ⟨m, rfl⟩ := Int.eq_ofNat_of_zero_le hx.1
  have hd : decide ((m : Int) < ((o ++ [t]).length : Int)) = decide (m < (o ++ [t]).length) := by congr 1; exact propext (by omega)
  cases fine with
  | true =>
    have h := label_run (X := X) g m (by omega) q
    have e1 : askS R (decide (m < (o ++ [t]).length)) 6 q = okR R (true && decide ((m : Int) < ((o ++ [t]).length : Int))) 6 q := by
      rw [ask_dec he (by decide), Bool.true_and, hd, okR]
      by_cases hq : m < (o ++ [t]).length
      · rw [if_pos hq, if_pos (decide_eq_true hq)]
      · rw [if_neg hq, if_neg (by simpa using hq)]
    rw [e1] at h
    exact h
  | false =>
    have h := label_run (X := X) (g.bad 6 q) m (by omega) q
    rw [ask_bad (by decide : (6 : Int) ≠ 0)] at h
    exact h

/-- The labels' words. -/
def msOf (ls : List Nat) (l : List Int) : List PV := l.map fun x => .sc (.int .i64 (ls.getD x.toNat 0 : Nat))

theorem msOf_get (ls : List Nat) (l : List Int) {i : Nat} (h : i < l.length) : (msOf ls l).getD i .bad = .sc (.int .i64 (ls.getD (l.getD i 0).toNat 0 : Nat)) := by
  rw [msOf, List.getD_eq_getElem?_getD, List.getElem?_map, List.getElem?_eq_getElem h]
  simp [List.getD_eq_getElem?_getD, List.getElem?_eq_getElem h]

/-- All labels are the same so far. -/
def eqR (R : Rw) (fine same : Bool) (q : Int) : Rw := okR (okR R same 214 q) fine 6 q

theorem eq_step (he : R.e = 0) (fine same y : Bool) (q : Int) : Ask X 113 [sB y, sI .i64 214, sI .i64 q] (.tup []) (eqR R fine same q) (eqR R fine (same && y) q) := by
  have h := ask_run (X := X) (R := eqR R fine same q) y 214 q
  have e1 : askS (eqR R fine same q) y 214 q = eqR R fine (same && y) q := by
    cases fine with
    | false =>
      have e (z : Bool) : eqR R false z q = badR (okR R z 214 q) 6 q := rfl
      rw [e, ask_bad (R := badR (okR R same 214 q) 6 q) (by decide : (6 : Int) ≠ 0), e]
      cases same <;> cases y <;> rfl
    | true =>
      have e0 : eqR R true false q = badR R 214 q := rfl
      have e1 : eqR R true true q = R := rfl
      cases same with
      | false => rw [e0, ask_bad (R := badR R 214 q) (by decide : (214 : Int) ≠ 0), Bool.false_and, e0]
      | true =>
        rw [e1, Bool.true_and]
        cases y with
        | true => rw [ask_true, e1]
        | false => rw [ask_false he (by decide), e0]
  rw [e1] at h
  exact h

/-- The end of a table. -/
theorem tab_end (g : Good R o t n c) (fine same : Bool) (k : Nat) :
    ∃ R1 R2 R3, Run X 110 [sI .i64 (1 : Nat), sI .i64 c] (eqR R fine same c) R1 ∧ Run X 110 [sI .i64 k, sI .i64 c] R1 R2 ∧ Run X 107 [sI .i64 c] R2 R3 ∧
      After o t R3 (if fine = false then .bad 6 c else if same = false then .bad 214 c else popV c 1 n t.dead fun n1 => popV c k n1 t.dead fun _ => .ok 0 true c) := by
  cases fine with
  | false =>
    have hb : (eqR R false same c).e ≠ 0 := (by decide : (6 : Int) ≠ 0)
    exact ⟨_, _, _, popE hb, popE hb, deaE hb, rfl, by decide, rfl⟩
  | true => cases same with
    | false =>
      have hb : (eqR R true false c).e ≠ 0 := (by decide : (214 : Int) ≠ 0)
      exact ⟨_, _, _, popE hb, popE hb, deaE hb, rfl, by decide, rfl⟩
    | true =>
      obtain ⟨R1, r1, a1, h1, x1⟩ := pop_run (X := X) g 1 c
      have hnx := g.nx
      have step : ∀ v, After o t R1 v → (∀ n' d c', v = .ok n' d c' → d = t.dead ∧ c' = c) → ∃ R2 R3, Run X 110 [sI .i64 k, sI .i64 c] R1 R2 ∧ Run X 107 [sI .i64 c] R2 R3 ∧ After o t R3 (v.and fun m d c => popV c k m d fun _ => .ok 0 true c) := by
        intro v hv hd
        cases v with
        | bad e q =>
          have hb : R1.e ≠ 0 := by rw [hv.1]; exact hv.2.1
          exact ⟨R1, R1, popE hb, deaE hb, hv⟩
        | ok m d c' =>
          obtain ⟨rfl, rfl⟩ := hd _ _ _ rfl
          obtain ⟨R2, R3, r2, r3, a3⟩ := popdead_run (X := X) (t := ⟨t.op, t.base, t.res, t.dead⟩) hv k c'
          exact ⟨R2, R3, r2, r3, a3⟩
      obtain ⟨R2, R3, r2, r3, a3⟩ := step _ a1 (fun n' d c' hv => by
        unfold popV at hv; split at hv
        · cases hv
        · cases hv; exact ⟨rfl, rfl⟩)
      rw [popV_and] at a3
      exact ⟨R1, R2, R3, r1, r2, r3, a3⟩

abbrev i14 (r a b nn : Int) (tg : List Int) (ll le : List Ins) : Blk := .pc [.sc (.int .i64 14), .sc (.int .i64 r), .sc (.int .u32 a), .sc (.int .u32 b), .sc (.int .i32 nn), .ps tg.length 1 (encT .u32 tg), .ps ll.length 8 (encL ll), .ps le.length 8 (encL le)]

theorem tab_loop2 (he : R.e = 0) (fine : Bool) (ls : List Nat) (v q : Nat) (hlen : tg.length ≤ 1000000000) {R1 R2 R3 : Rw}
    (r1 : Run X 110 [sI .i64 (1 : Nat), sI .i64 q] (eqR R fine (tg.all fun x => ls.getD x.toNat 0 == v) q) R1) (r2 : Run X 110 [sI .i64 v, sI .i64 q] R1 R2) (r3 : Run X 107 [sI .i64 q] R2 R3) :
    ∀ (m i : Nat), i + m = tg.length → Am.Good Tryz.prog env (bodyCfg Tryz.prog env 112 2 [.mp 0 0, sI .i64 q, sI .i64 v, .os (some 2) tg.length 1 (msOf ls tg), sI .i64 tg.length, sI .i64 i]
      (memIn X (eqR R fine ((tg.take i).all fun x => ls.getD x.toNat 0 == v) q) ++ [.tok]) 2 55) (.ret (.tup []) (memOut X R3)) := by
  intro m
  induction m with
  | zero =>
    intro i hi
    have hti : tg.take i = tg := List.take_of_length_le (by omega)
    rw [hti]
    refine good_of_tree names (tmL_tree X (eqR R fine (tg.all fun x => ls.getD x.toNat 0 == v) q) R1 R2 R3 R R R R q v 0 i tg.length (msOf ls tg)) ?_
    have g1 : decide ((i : Int) < (tg.length : Int)) = false := by simp; omega
    simp only [tmLTree, Tree.ok, keep_map, g1, Bool.false_eq_true, false_implies, true_implies, true_and, and_true]
    exact ⟨r1, r2, r3⟩
  | succ m ih =>
    intro i hi
    have hlt : i < tg.length := by omega
    have hih := ih (i + 1) (by omega)
    have htk : tg.take (i + 1) = tg.take i ++ [tg.getD i 0] := by
      rw [List.take_add_one, List.getElem?_eq_getElem hlt, List.getD_eq_getElem?_getD, List.getElem?_eq_getElem hlt]; rfl
    rw [htk, List.all_append, List.all_cons, List.all_nil, Bool.and_true] at hih
    have hA := eq_step (X := X) he fine ((tg.take i).all fun x => ls.getD x.toNat 0 == v) (ls.getD (tg.getD i 0).toNat 0 == v) q
    refine good_of_tree names (tmL_tree X _ (eqR R fine (((tg.take i).all fun x => ls.getD x.toNat 0 == v) && (ls.getD (tg.getD i 0).toNat 0 == v)) q) R R R R R R q v (ls.getD (tg.getD i 0).toNat 0 : Nat) i tg.length (msOf ls tg)) ?_
    have g1 : decide ((i : Int) < (tg.length : Int)) = true := by simp; omega
    have hm := msOf_get ls tg hlt
    have hy : (((ls.getD (tg.getD i 0).toNat 0 : Nat) : Int) == (v : Int)) = (ls.getD (tg.getD i 0).toNat 0 == v) := by
      rw [Bool.eq_iff_iff, beq_iff_eq, beq_iff_eq]; omega
    have w1 : IntKind.i64.wrap ((i : Int) + 1) = ((i + 1 : Nat) : Int) := by rw [i64In (by omega) (by omega)]; rfl
    simp only [tmLTree, Tree.ok, keep_map, g1, w1, Int.toNat_natCast, Nat.mul_one, hm, isInt, pvInt, ik, hy, inB, Bool.true_eq_false, false_implies, true_implies, true_and, and_true, Bool.and_true, Bool.and_eq_true, decide_eq_true_eq]
    exact ⟨by omega, hA, hih⟩

theorem tab_loop1 (g : Good R o t n c) (ha : 0 ≤ a ∧ a < 4294967296) (htg : ∀ x ∈ tg, 0 ≤ x ∧ x < 4294967296) (hlen : tg.length ≤ 1000000000) {R1 R2 R3 : Rw}
    (r1 : Run X 110 [sI .i64 (1 : Nat), sI .i64 c] (eqR R ((tg.all fun x => decide (x < (o ++ [t]).length)) && decide (a < (o ++ [t]).length)) (tg.all fun x => (labs (o ++ [t])).getD x.toNat 0 == (labs (o ++ [t])).getD a.toNat 0) c) R1)
    (r2 : Run X 110 [sI .i64 ((labs (o ++ [t])).getD a.toNat 0 : Nat), sI .i64 c] R1 R2) (r3 : Run X 107 [sI .i64 c] R2 R3) :
    ∀ (m i : Nat), i + m = tg.length → 1 ≤ i → Am.Good Tryz.prog env (bodyCfg Tryz.prog env 112 0 [.mp 0 0, sI .i64 c, .mp 2 0, .os (some 3) i 1 (msOf (labs (o ++ [t])) (tg.take i)), tgA tg, sI .i64 tg.length, sI .i64 i]
      (memIn X (okR R ((tg.take i).all fun x => decide (x < (o ++ [t]).length)) 6 c) ++ [i14 r a b nn tg ll le, .tok]) 2 55) (.ret (.tup []) (memOut X R3)) := by
  intro m
  induction m with
  | zero =>
    intro i hi h1
    have hti : tg.take i = tg := List.take_of_length_le (by omega)
    obtain rfl : i = tg.length := by omega
    rw [hti]
    have hA := lab_step (X := X) g.toStand g.e (tg.all fun x => decide (x < (o ++ [t]).length)) a ha c
    have hl2 := tab_loop2 (X := X) g.e ((tg.all fun x => decide (x < (o ++ [t]).length)) && decide (a < (o ++ [t]).length)) (labs (o ++ [t])) ((labs (o ++ [t])).getD a.toNat 0) c hlen r1 r2 r3 tg.length 0 (by omega)
    have hz : eqR R ((tg.all fun x => decide (x < (o ++ [t]).length)) && decide (a < (o ++ [t]).length)) ((tg.take 0).all fun x => (labs (o ++ [t])).getD x.toNat 0 == (labs (o ++ [t])).getD a.toNat 0) c =
        okR R ((tg.all fun x => decide (x < (o ++ [t]).length)) && decide (a < (o ++ [t]).length)) 6 c := rfl
    rw [hz] at hl2
    refine good_of_tree names (tbL_tree X _ (okR R ((tg.all fun x => decide (x < (o ++ [t]).length)) && decide (a < (o ++ [t]).length)) 6 c) R R R R R R r a b nn tg ll le c tg.length tg.length (msOf (labs (o ++ [t])) tg) 0 ((labs (o ++ [t])).getD a.toNat 0 : Nat)) ?_
    have g1 : decide ((tg.length : Int) < (tg.length : Int)) = false := by simp
    simp only [tbLTree, Tree.ok, keep_map, g1, Bool.false_eq_true, false_implies, true_implies, true_and, and_true]
    exact ⟨hA, hl2⟩
  | succ m ih =>
    intro i hi h1
    have hlt : i < tg.length := by omega
    have hih := ih (i + 1) (by omega) (by omega)
    have htk : tg.take (i + 1) = tg.take i ++ [tg.getD i 0] := by
      rw [List.take_add_one, List.getElem?_eq_getElem hlt, List.getD_eq_getElem?_getD, List.getElem?_eq_getElem hlt]; rfl
    have hmem : tg.getD i 0 ∈ tg := by rw [List.getD_eq_getElem?_getD, List.getElem?_eq_getElem hlt]; exact List.getElem_mem hlt
    rw [htk, List.all_append, List.all_cons, List.all_nil, Bool.and_true] at hih
    have hms : msOf (labs (o ++ [t])) (tg.take i ++ [tg.getD i 0]) = msOf (labs (o ++ [t])) (tg.take i) ++ [.sc (.int .i64 ((labs (o ++ [t])).getD (tg.getD i 0).toNat 0 : Nat))] := by simp [msOf]
    rw [hms] at hih
    have hA := lab_step (X := X) g.toStand g.e ((tg.take i).all fun x => decide (x < (o ++ [t]).length)) (tg.getD i 0) (htg _ hmem) c
    refine good_of_tree names (tbL_tree X _ (okR R (((tg.take i).all fun x => decide (x < (o ++ [t]).length)) && decide (tg.getD i 0 < (o ++ [t]).length)) 6 c) R R R R R R r a b nn tg ll le c i i (msOf (labs (o ++ [t])) (tg.take i)) (tg.getD i 0) ((labs (o ++ [t])).getD (tg.getD i 0).toNat 0 : Nat)) ?_
    have g1 : decide ((i : Int) < (tg.length : Int)) = true := by simp; omega
    have w1 : IntKind.i64.wrap ((i : Int) + 1) = ((i + 1 : Nat) : Int) := by rw [i64In (by omega) (by omega)]; rfl
    have hlim : lim = 70368744177664 := rfl
    simp only [tbLTree, Tree.ok, keep_map, g1, w1, Int.toNat_natCast, Nat.mul_one, isInt_encT, pvInt_encT, inB, Bool.true_eq_false, false_implies, true_implies, true_and, and_true, Bool.and_true, Bool.and_eq_true, decide_eq_true_eq, Nat.ble_eq]
    exact ⟨by omega, hlt, hA, ⟨by omega, by omega⟩, hih⟩

theorem table_run (g : Good R o t n c) (ha : 0 ≤ a ∧ a < 4294967296) (htg : ∀ x ∈ tg, 0 ≤ x ∧ x < 4294967296) (hlen : tg.length ≤ 1000000000) :
    ∃ R', Run X 112 [aggI 14 r a b nn tg ll le, sI .i64 c] R R' ∧ After o t R' (flatV V (labs (o ++ [t])) 14 a tg n t.dead c) := by
  have hll : (labs (o ++ [t])).length = (o ++ [t]).length := by simp [labs]
  obtain ⟨R1, R2, R3, r1, r2, r3, a3⟩ := tab_end (X := X) g ((tg.all fun x => decide (x < (o ++ [t]).length)) && decide (a < (o ++ [t]).length)) (tg.all fun x => (labs (o ++ [t])).getD x.toNat 0 == (labs (o ++ [t])).getD a.toNat 0) ((labs (o ++ [t])).getD a.toNat 0)
  refine ⟨R3, ?_, ?_⟩
  · refine does_of_tree names (tb0_tree X R R R R R R R R r a b nn tg ll le c) ?_
    simp only [tb0Tree, Tree.ok, keep_map]
    cases htg0 : tg with
    | nil =>
      subst htg0
      have hA := lab_step (X := X) g.toStand g.e true a ha c
      have h2 : Am.Good Tryz.prog env (bodyCfg Tryz.prog env 112 2 [.mp 0 0, sI .i64 c, sI .i64 ((labs (o ++ [t])).getD a.toNat 0 : Nat), .os none 0 0 [], sI .i64 0, sI .i64 (0 : Nat)] (memIn X (okR R (true && decide (a < (o ++ [t]).length)) 6 c)) 2 55) (.ret (.tup []) (memOut X R3)) := by
        refine good_of_tree names (tmF_tree X _ R1 R2 R3 R R R R c ((labs (o ++ [t])).getD a.toNat 0 : Nat) 0 0 0 []) ?_
        simp only [tmFTree, Tree.ok, keep_map, Bool.false_eq_true, false_implies, true_implies, true_and, and_true]
        exact ⟨r1, r2, r3⟩
      refine good_of_tree names (tbF_tree X R (okR R (true && decide (a < (o ++ [t]).length)) 6 c) R R R R R R r a b nn [] ll le c 0 0 [] 0 ((labs (o ++ [t])).getD a.toNat 0 : Nat)) ?_
      simp only [tbFTree, Tree.ok, keep_map, List.length_nil]
      refine ⟨fun hq => absurd hq (by decide), fun _ => ⟨hA, h2⟩⟩
    | cons x l =>
      have hlt : 0 < tg.length := by rw [htg0]; simp
      have hA := lab_step (X := X) g.toStand g.e true x (htg x (by rw [htg0]; simp)) c
      have hl1 := tab_loop1 (X := X) (r := r) (b := b) (nn := nn) (ll := ll) (le := le) g ha htg hlen r1 r2 r3 (tg.length - 1) 1 (by omega) (by omega)
      rw [htg0] at hl1
      have hT : (List.take 1 (x :: l)).all (fun x => decide (x < ((o ++ [t]).length : Int))) = (true && decide (x < ((o ++ [t]).length : Int))) := by simp
      rw [hT] at hl1
      refine good_of_tree names (tbF_tree X R (okR R (true && decide (x < (o ++ [t]).length)) 6 c) R R R R R R r a b nn (x :: l) ll le c 0 0 [] x ((labs (o ++ [t])).getD x.toNat 0 : Nat)) ?_
      have g1 : decide (((0 : Nat) : Int) < (((x :: l).length : Nat) : Int)) = true := by simp
      have hlim : lim = 70368744177664 := rfl
      have hgd : (x :: l).getD 0 0 = x := rfl
      simp only [tbFTree, Tree.ok, keep_map, g1, Int.toNat_natCast, Nat.zero_mul, isInt_encT, pvInt_encT, hgd, inB, Bool.true_eq_false, false_implies, true_implies, true_and, and_true, Bool.and_true, Bool.and_eq_true, decide_eq_true_eq, Nat.ble_eq]
      refine ⟨by simp, by simp, hA, ?_⟩
      first | exact ⟨rfl, hl1⟩ | exact ⟨by omega, rfl, hl1⟩ | exact hl1
  · have e1 : flatV V (labs (o ++ [t])) 14 a tg n t.dead c = (match tabV (labs (o ++ [t])) tg a with
      | .inl e => .bad e c
      | .inr k => popV c 1 n t.dead fun n1 => popV c k n1 t.dead fun _ => .ok 0 true c) := rfl
    rw [e1]
    unfold tabV
    rw [hll]
    by_cases hall : (tg.all fun x => decide (x < ((o ++ [t]).length : Int))) = true
    · rw [if_neg (by rw [hall]; decide)]
      rw [hall, Bool.true_and] at a3
      by_cases hlt : a < ((o ++ [t]).length : Int)
      · have hs : (labs (o ++ [t]))[a.toNat]? = some ((labs (o ++ [t])).getD a.toNat 0) := by
          rw [List.getD_eq_getElem?_getD, List.getElem?_eq_getElem (by omega)]; rfl
        rw [hs]
        rw [decide_eq_true hlt, if_neg (by decide)] at a3
        dsimp only
        by_cases hsame : (tg.all fun x => (labs (o ++ [t])).getD x.toNat 0 == (labs (o ++ [t])).getD a.toNat 0) = true
        · rw [if_pos hsame]
          rw [hsame, if_neg (by decide)] at a3
          exact a3
        · rw [if_neg hsame]
          rw [if_pos (by simpa using hsame)] at a3
          exact a3
      · have hs : (labs (o ++ [t]))[a.toNat]? = none := List.getElem?_eq_none (by omega)
        rw [hs]
        rw [decide_eq_false hlt, if_pos rfl] at a3
        exact a3
    · have hall : (tg.all fun x => decide (x < ((o ++ [t]).length : Int))) = false := by simpa using hall
      rw [hall, Bool.false_and, if_pos rfl] at a3
      rw [if_pos hall]
      exact a3

end
end Go.Proofs.YtgbphddecpjlhaaGreatDoor.N
end

section
set_option linter.unusedSimpArgs false
set_option linter.unusedVariables false
namespace Go.Proofs.YtgbphddecpjlhaaGreatDoor.N
open Go Go.Am

theorem popV_ok {q k n c c' m : Nat} {d d' : Bool} {f : Nat → VR} (h : popV q k n d f = .ok m d' c') : ∃ x, f x = .ok m d' c' := by
  unfold popV at h; split at h
  · cases h
  · exact ⟨_, h⟩

theorem endV_ok {q r n m c' : Nat} {d d' : Bool} {f : VR} (h : endV r n d q f = .ok m d' c') : f = .ok m d' c' := by
  unfold endV at h
  obtain ⟨x, hx⟩ := popV_ok (c := 0) h
  split at hx
  · cases hx
  · exact hx

theorem flatV_count {V : VEnv} {ls : List Nat} {op a : Int} {tg : List Int} {n m c c' : Nat} {d d' : Bool} (h : flatV V ls op a tg n d c = .ok m d' c') : c' = c := by
  unfold flatV at h
  split at h
  · split at h
    · cases h
    · obtain ⟨x, hx⟩ := popV_ok (c := 0) h
      cases hx; rfl
  split at h
  · split at h
    · cases h
    · obtain ⟨x, hx⟩ := popV_ok (c := 0) h
      obtain ⟨y, hy⟩ := popV_ok (c := 0) hx
      cases hy; rfl
  split at h
  · split at h
    · cases h
    · obtain ⟨x, hx⟩ := popV_ok (c := 0) h
      obtain ⟨y, hy⟩ := popV_ok (c := 0) hx
      cases hy; rfl
  split at h
  · obtain ⟨x, hx⟩ := popV_ok (c := 0) h
    cases hx; rfl
  split at h
  · split at h
    · cases h
    · obtain ⟨x, hx⟩ := popV_ok (c := 0) h
      cases hx; rfl
  split at h
  · split at h
    · cases h
    · obtain ⟨x, hx⟩ := popV_ok (c := 0) h
      obtain ⟨y, hy⟩ := popV_ok (c := 0) hx
      cases hy; rfl
  split at h
  · cases h
  · obtain ⟨x, hx⟩ := popV_ok (c := 0) h
    cases hx; rfl

mutual
theorem valI_count (V : VEnv) (ls : List Nat) : ∀ (x : Ins) (n : Nat) (d : Bool) (c m : Nat) (d' : Bool) (c' : Nat), valI V ls x n d c = .ok m d' c' → c ≤ c' ∧ c' + 1 ≤ c + numI x
  | .mk op r a b nn tg l e, n, d, c, m, d', c', h => by
    simp only [valI] at h
    simp only [numI]
    split at h
    · cases h; omega
    split at h
    · split at h
      · cases h
      · rename_i n1 d1 c1 h1
        have := valL_count V _ l 0 false c n1 d1 c1 h1
        have := endV_ok h
        cases this; omega
    split at h
    · obtain ⟨x, h⟩ := popV_ok (c := 0) h
      split at h
      · cases h
      · rename_i n1 d1 c1 h1
        have := valL_count V _ l 0 false c n1 d1 c1 h1
        have h := endV_ok h
        split at h
        · cases h
        · rename_i n2 d2 c2 h2
          have := valL_count V _ e 0 false c1 n2 d2 c2 h2
          have h := endV_ok h
          cases h; omega
    · have := flatV_count h
      omega
theorem valL_count (V : VEnv) (ls : List Nat) : ∀ (l : List Ins) (n : Nat) (d : Bool) (c m : Nat) (d' : Bool) (c' : Nat), valL V ls l n d c = .ok m d' c' → c ≤ c' ∧ c' ≤ c + numL l
  | [], n, d, c, m, d', c', h => by simp only [valL] at h; cases h; simp
  | x :: r, n, d, c, m, d', c', h => by
    simp only [valL] at h
    simp only [numL]
    split at h
    · cases h
    · rename_i n1 d1 c1 h1
      have := valI_count V ls x n d (c + 1) n1 d1 c1 h1
      have := valL_count V ls r n1 d1 c1 m d' c' h
      omega
end

theorem valL_cons (V : VEnv) (ls : List Nat) (x : Ins) (r : List Ins) (n : Nat) (d : Bool) (c : Nat) : valL V ls (x :: r) n d c = (valI V ls x n d (c + 1)).and fun n d c => valL V ls r n d c := by
  simp only [valL]
  cases valI V ls x n d (c + 1) <;> rfl

theorem iku : (IntKind.u32 == IntKind.u32) = true := rfl
theorem iki : (IntKind.i32 == IntKind.i32) = true := rfl

/-- Its results are none, or one. -/
def resI (x : Ins) : Bool := decide (0 ≤ x.results ∧ x.results ≤ 1)

/-- What is asked of a list: by its data, and for room. -/
structure Fit (l : List Ins) (c k : Nat) : Prop where
  res : okL resI l = true
  wf : wfL l
  tag : tagL l ≤ 1000000000
  num : c + numL l ≤ 1000000000
  dep : k + depL 1 l ≤ 1000

section
variable {X : Lx} {V : VEnv} {ll : List Ins}

theorem labs_dead (o : List Fr) (t : Fr) (d : Bool) : labs (o ++ [⟨t.op, t.base, t.res, d⟩]) = labs (o ++ [t]) := by simp [labs]

/-- A list's contract; an instruction's. -/
def CL (X : Lx) (V : VEnv) (l : List Ins) : Prop := ∀ (R : Rw) (o : List Fr) (t : Fr) (n c : Nat), Fit l c (o.length + 1) → Good R o t n c → ∃ R', Run X 33 [aL l] R R' ∧ After o t R' (valL V (labs (o ++ [t])) l n t.dead c)
def CI (X : Lx) (V : VEnv) (o : List Fr) (t : Fr) (x : Ins) : Prop := ∀ (R : Rw) (d : Bool) (n c : Nat), c + numI x ≤ 1000000001 → Good R o ⟨t.op, t.base, t.res, d⟩ n c → R.h + 1 ≤ c → ∃ R', Run X 83 [aggX x, sI .i64 c] R R' ∧ After o t R' (valI V (labs (o ++ [t])) x n d c)

theorem bad_list {R : Rw} (he : R.e ≠ 0) (l : List Ins) (hl : l.length ≤ 1000000000) : Run X 33 [aL l] R R := by
  refine Does.settle (l0 := X.M.cells ++ [sI .i64 X.tP, sI .i64 X.tR, sI .u64 X.own, sI .i64 R.h, .ms 1 0 R.k 4 none, sI .i64 R.e, sI .i64 R.p, sI .i64 R.nx]) ?_ (Nat.le_refl 2)
  refine does_of_tree names (li0_tree X R R R R R R R R l) ?_
  simp only [li0Tree, Tree.ok, keep_map]
  have e0 : (R.e != 0) = true := by simpa using he
  cases l with
  | nil =>
    refine good_of_tree names (liF_tree X R R R R R R R R [] 0 0 0 0 0 0 [] [] []) ?_
    simp only [liFTree, Tree.ok, keep_map, List.length_nil]
    exact ⟨fun h => absurd h (by decide), fun _ => trivial⟩
  | cons x r =>
    obtain ⟨op, rs, a, b, nn, tg, ll, le⟩ := x
    have hg : (Ins.mk op rs a b nn tg ll le :: r)[0]? = some (.mk op rs a b nn tg ll le) := rfl
    obtain ⟨c0, c1, c2, c3, c4, c5, c6, c7⟩ := cells_at hg
    refine good_of_tree names (liF_tree X R R R R R R R R (.mk op rs a b nn tg ll le :: r) 0 op rs a b nn tg ll le) ?_
    have g1 : decide (((0 : Nat) : Int) < ((Ins.mk op rs a b nn tg ll le :: r).length : Int)) = true := by simp
    simp only [liFTree, Tree.ok, keep_map, g1, e0, Int.toNat_natCast, Nat.add_assoc, Nat.reduceAdd, c0, c1, c2, c3, c4, c5, c6, c7, isInt, isPs, pvInt, psLen, psSz, psCells, inB, ik, iku, iki, Bool.true_eq_false, false_implies, true_implies, true_and, and_true, Bool.and_true, Bool.and_eq_true, decide_eq_true_eq]
    exact ⟨by omega, rfl⟩

theorem list_loop {o : List Fr} {t : Fr} {xs : List Ins} (hx : xs.length ≤ 1000000000) (IH : ∀ x ∈ xs, CI X V o t x) :
    ∀ (m i : Nat), i + m = xs.length → ∀ (R : Rw) (v : VR), After o t R v → (∀ n d c, v = .ok n d c → c + numL (xs.drop i) ≤ 1000000000) →
      ∃ R', Am.Good Tryz.prog env (bodyCfg Tryz.prog env 33 0 [.mp 0 0, aL xs, sI .i64 xs.length, sI .i64 i] (memOut X R) 2 32) (.ret (.tup []) (memOut X R')) ∧ After o t R' (v.and fun n d c => valL V (labs (o ++ [t])) (xs.drop i) n d c) := by
  intro m
  induction m with
  | zero =>
    intro i hi R v hv _
    refine ⟨R, good_of_tree names (liL_tree X R R R R R R R R xs i 0 0 0 0 0 [] [] []) ?_, ?_⟩
    · have g1 : decide ((i : Int) < (xs.length : Int)) = false := by simp; omega
      simp only [liLTree, Tree.ok, keep_map, g1, Bool.false_eq_true, false_implies, true_implies, true_and]
    · rw [List.drop_eq_nil_of_le (by omega)]
      cases v with
      | bad e q => exact hv
      | ok n d c => exact hv
  | succ m ih =>
    intro i hi R v hv hb
    have hlt : i < xs.length := by omega
    have hgx : xs[i]? = some xs[i] := List.getElem?_eq_getElem hlt
    have hdr : xs.drop i = xs[i] :: xs.drop (i + 1) := List.drop_eq_getElem_cons hlt
    have hmem : xs[i] ∈ xs := List.getElem_mem hlt
    generalize xs[i] = x at *
    have hIH := IH x hmem
    obtain ⟨op, rs, a, b, nn, tg, ll, le⟩ := x
    obtain ⟨c0, c1, c2, c3, c4, c5, c6, c7⟩ := cells_at hgx
    have g1 : decide ((i : Int) < (xs.length : Int)) = true := by simp; omega
    have w1 : IntKind.i64.wrap ((i : Int) + 1) = ((i + 1 : Nat) : Int) := by rw [i64In (by omega) (by omega)]; rfl
    cases v with
    | bad e q =>
      have e0 : (R.e != 0) = true := by rw [hv.1]; simpa using hv.2.1
      refine ⟨R, good_of_tree names (liL_tree X R R R R R R R R xs i op rs a b nn tg ll le) ?_, hv⟩
      simp only [liLTree, Tree.ok, keep_map, g1, e0, Int.toNat_natCast, Nat.add_assoc, Nat.reduceAdd, c0, c1, c2, c3, c4, c5, c6, c7, isInt, isPs, pvInt, psLen, psSz, psCells, inB, ik, iku, iki, Bool.true_eq_false, false_implies, true_implies, true_and, and_true, Bool.and_true, Bool.and_eq_true, decide_eq_true_eq]
      exact ⟨by omega, rfl⟩
    | ok n d c =>
      have hbn := hb n d c rfl
      rw [hdr] at hbn
      have hn1 : 1 ≤ numI (.mk op rs a b nn tg ll le) := by simp only [numI]; omega
      simp only [numL] at hbn
      have hg : Good ⟨R.h, R.k, R.cs, R.e, R.p, R.nx + 1⟩ o ⟨t.op, t.base, t.res, d⟩ n (c + 1) := by
        obtain ⟨⟨q1, q2, q3, q4⟩, q5, q6, q8, q7⟩ := hv
        exact ⟨⟨q1, q2, q3, q4⟩, q5, by simp only; omega, q8, by simp only; omega⟩
      obtain ⟨R1, r1, a1⟩ := hIH _ d n (c + 1) (by omega) hg (by have := hv.le; simp only; omega)
      obtain ⟨R', gR, aR⟩ := ih (i + 1) (by omega) R1 _ a1 (fun n' d' c' hv' => by
        have := valI_count V _ _ _ _ _ _ _ _ hv'
        omega)
      refine ⟨R', good_of_tree names (liL_tree X R R1 R R R R R R xs i op rs a b nn tg ll le) ?_, ?_⟩
      · have e0 : (R.e != 0) = false := by have := hv.e; simp [this]
        have hnx : R.nx = (c : Int) := hv.nx
        have w2 : IntKind.i64.wrap (R.nx + 1) = R.nx + 1 := i64In (by omega) (by omega)
        have hcc : ((c + 1 : Nat) : Int) = R.nx + 1 := by omega
        rw [hcc] at r1
        simp only [liLTree, Tree.ok, keep_map, g1, e0, w1, w2, Int.toNat_natCast, Nat.add_assoc, Nat.reduceAdd, c0, c1, c2, c3, c4, c5, c6, c7, isInt, isPs, pvInt, psLen, psSz, psCells, inB, ik, iku, iki, Bool.false_eq_true, Bool.true_eq_false, false_implies, true_implies, true_and, and_true, Bool.and_true, Bool.and_eq_true, decide_eq_true_eq]
        exact ⟨by omega, rfl, r1, gR⟩
      · rw [hdr]
        show After o t R' (valL V (labs (o ++ [t])) (.mk op rs a b nn tg ll le :: xs.drop (i + 1)) n d c)
        rw [valL_cons]
        exact aR

theorem list_of {o : List Fr} {t : Fr} {xs : List Ins} (hx : xs.length ≤ 1000000000) (IH : ∀ x ∈ xs, CI X V o t x) {R : Rw} {n c : Nat} (hc : c + numL xs ≤ 1000000000) (g : Good R o t n c) :
    ∃ R', Run X 33 [aL xs] R R' ∧ After o t R' (valL V (labs (o ++ [t])) xs n t.dead c) := by
  cases xs with
  | nil =>
    refine ⟨R, ?_, by simp only [valL]; exact g⟩
    refine Does.settle (l0 := X.M.cells ++ [sI .i64 X.tP, sI .i64 X.tR, sI .u64 X.own, sI .i64 R.h, .ms 1 0 R.k 4 none, sI .i64 R.e, sI .i64 R.p, sI .i64 R.nx]) ?_ (Nat.le_refl 2)
    refine does_of_tree names (li0_tree X R R R R R R R R []) ?_
    simp only [li0Tree, Tree.ok, keep_map]
    refine good_of_tree names (liF_tree X R R R R R R R R [] 0 0 0 0 0 0 [] [] []) ?_
    simp only [liFTree, Tree.ok, keep_map, List.length_nil]
    exact ⟨fun h => absurd h (by decide), fun _ => trivial⟩
  | cons x r =>
    have hIH := IH x (by simp)
    obtain ⟨op, rs, a, b, nn, tg, ll, le⟩ := x
    have hn1 : 1 ≤ numI (.mk op rs a b nn tg ll le) := by simp only [numI]; omega
    simp only [numL] at hc
    have hgx : (Ins.mk op rs a b nn tg ll le :: r)[0]? = some (.mk op rs a b nn tg ll le) := rfl
    obtain ⟨c0, c1, c2, c3, c4, c5, c6, c7⟩ := cells_at hgx
    have hg : Good ⟨R.h, R.k, R.cs, R.e, R.p, R.nx + 1⟩ o ⟨t.op, t.base, t.res, t.dead⟩ n (c + 1) := by
      obtain ⟨⟨q1, q2, q3, q4⟩, q5, q6, q8, q7⟩ := g
      exact ⟨⟨q1, q2, q3, q4⟩, q5, by simp only; omega, q8, by simp only; omega⟩
    obtain ⟨R1, r1, a1⟩ := hIH _ t.dead n (c + 1) (by omega) hg (by have := g.le; simp only; omega)
    obtain ⟨R', gR, aR⟩ := list_loop (V := V) hx IH r.length 1 (by simp; omega) R1 _ a1 (fun n' d' c' hv' => by
      have := valI_count V _ _ _ _ _ _ _ _ hv'
      simp only [List.drop_succ_cons, List.drop_zero]
      omega)
    refine ⟨R', does_of_tree names (li0_tree X R R R R R R R R _) ?_, ?_⟩
    · simp only [li0Tree, Tree.ok, keep_map]
      refine good_of_tree names (liF_tree X R R1 R R R R R R (.mk op rs a b nn tg ll le :: r) 0 op rs a b nn tg ll le) ?_
      have g1 : decide (((0 : Nat) : Int) < ((Ins.mk op rs a b nn tg ll le :: r).length : Int)) = true := by simp
      have e0 : (R.e != 0) = false := by have := g.e; simp [this]
      have hnx : R.nx = (c : Int) := g.nx
      have w2 : IntKind.i64.wrap (R.nx + 1) = R.nx + 1 := i64In (by omega) (by omega)
      have hcc : ((c + 1 : Nat) : Int) = R.nx + 1 := by omega
      rw [hcc] at r1
      simp only [liFTree, Tree.ok, keep_map, g1, e0, w2, Int.toNat_natCast, Nat.add_assoc, Nat.reduceAdd, c0, c1, c2, c3, c4, c5, c6, c7, isInt, isPs, pvInt, psLen, psSz, psCells, inB, ik, iku, iki, Bool.false_eq_true, Bool.true_eq_false, false_implies, true_implies, true_and, and_true, Bool.and_true, Bool.and_eq_true, decide_eq_true_eq]
      exact ⟨by omega, rfl, r1, rfl, gR⟩
    · rw [valL_cons]
      exact aR

theorem after_dead {o : List Fr} {t : Fr} {d : Bool} {R : Rw} {v : VR} (h : After o ⟨t.op, t.base, t.res, d⟩ R v) : After o t R v := by
  cases v with
  | bad e q => exact h
  | ok n d c => exact h

/-- A list within, entered and left. -/
theorem inner_run (hcl : CL X V ll) {R : Rw} {o : List Fr} {t : Fr} {n c : Nat} (g : Good R o t n c) {op r : Int} (q : Nat) (hop : op = 2 ∨ op = 3 ∨ op = 4 ∨ op = 5) (hr : 0 ≤ r) (hr1 : r ≤ 1) (hh : R.h + 1 ≤ c)
    (hfit : Fit ll c (o.length + 2)) : ∃ R1 R2 R3, Run X 134 [sI .i64 op, sI .i64 r, sI .i64 q] R R1 ∧ Does Tryz.prog env 134 [.mp 0 0, sI .i64 op, sI .i64 r, sI .i64 q] (memIn X R) (.tup []) [lkB X.M X.tP X.tR X.own R1.h 2 R1.k R1.e R1.p R1.nx, frB R.cs, frB R1.cs] ∧
      Run X 33 [aL ll] R1 R2 ∧ Run X 34 [sI .i64 q] R2 R3 ∧ After o t R3 ((valL V ((if op = 3 then 0 else r.toNat) :: labs (o ++ [t])) ll 0 false c).and fun n1 d1 c1 => endV r.toNat n1 d1 q (.ok (n + r.toNat) t.dead c1)) := by
  have hd := hfit.dep
  obtain ⟨R1, r1, k1, g1⟩ := enter_run (X := X) g q hop hr hr1 (by omega)
  obtain ⟨R2, r2, a2⟩ := hcl R1 (o ++ [t]) ⟨op, R.h, r, false⟩ 0 c (by rw [List.length_append]; exact hfit) g1
  rw [labs_app] at a2
  dsimp only at a2
  cases hv : valL V ((if op = 3 then 0 else r.toNat) :: labs (o ++ [t])) ll 0 false c with
  | bad e p =>
    rw [hv] at a2
    have hb : R2.e ≠ 0 := by rw [a2.1]; exact a2.2.1
    exact ⟨R1, R2, R2, r1, k1, r2, leaE hb, a2⟩
  | ok n1 d1 c1 =>
    rw [hv] at a2
    have hc1 := valL_count V _ _ _ _ _ _ _ _ hv
    have hnum := hfit.num
    obtain ⟨R3, r3, a3⟩ := leave_run (X := X) (s := t) a2 q (by simp only; omega) (by omega)
    refine ⟨R1, R2, R3, r1, k1, r2, r3, ?_⟩
    have hn : (R.h - t.base).toNat = n := by have := g.h; omega
    simp only [hn] at a3
    exact a3

end
end Go.Proofs.YtgbphddecpjlhaaGreatDoor.N
end

section
set_option linter.unusedSimpArgs false
set_option linter.unusedVariables false
namespace Go.Proofs.YtgbphddecpjlhaaGreatDoor.N
open Go Go.Am

theorem okL_mem {p : Ins → Bool} : ∀ {l : List Ins}, okL p l = true → ∀ x ∈ l, okI p x = true
  | [], _, _, hx => by cases hx
  | y :: r, h, x, hx => by
    simp only [okL, Bool.and_eq_true] at h
    cases hx with
    | head => exact h.1
    | tail _ hx => exact okL_mem h.2 x hx

theorem wfL_mem : ∀ {l : List Ins}, wfL l → ∀ x ∈ l, wfI x
  | [], _, _, hx => by cases hx
  | y :: r, h, x, hx => by
    simp only [wfL] at h
    cases hx with
    | head => exact h.1
    | tail _ hx => exact wfL_mem h.2 x hx

theorem tagL_mem : ∀ {l : List Ins}, ∀ x ∈ l, tagI x ≤ tagL l
  | [], _, hx => by cases hx
  | y :: r, x, hx => by
    simp only [tagL]
    cases hx with
    | head => omega
    | tail _ hx => have := tagL_mem x hx; omega

theorem depL_mem {d : Nat} : ∀ {l : List Ins}, ∀ x ∈ l, depI d x ≤ depL d l
  | [], _, hx => by cases hx
  | y :: r, x, hx => by
    simp only [depL]
    cases hx with
    | head => omega
    | tail _ hx => have := depL_mem (d := d) x hx; omega

theorem depL_in (l : List Ins) : depL 1 l + 1 ≤ max 1 (depL 2 l) := by
  by_cases h : l = []
  · subst h; simp [depL]
  · have h2 : depL 2 l = depL 1 l + 1 := depL_shift 1 l h
    omega

theorem endV_and {r n q a x : Nat} {d b : Bool} {f : VR} : endV r n d q f = (endV r n d q (.ok a b x)).and fun _ _ _ => f := by
  unfold endV popV
  split
  · rfl
  · dsimp only
    split <;> rfl

theorem and_and {v : VR} {F G : Nat → Bool → Nat → VR} : (v.and F).and G = v.and fun n d c => (F n d c).and G := by cases v <;> rfl

section
variable {X : Lx} {V : VEnv}

theorem instr_run (hv : VOk X V) {o : List Fr} {t : Fr} (x : Ins) (hl : CL X V x.l) (he : CL X V x.e) (hok : okI resI x = true) (hwf : wfI x) (htag : tagI x ≤ 1000000000) (hdep : o.length + 1 + depI 1 x ≤ 1000) : CI X V o t x := by
  obtain ⟨op, r, a, b, nn, tg, ll, le⟩ := x
  intro R d n c hnum g hh
  simp only [Ins.l, Ins.e] at hl he
  simp only [okI, Bool.and_eq_true] at hok
  obtain ⟨hres, hokl, hoke⟩ := hok
  obtain ⟨hr0, hr1⟩ : 0 ≤ r ∧ r ≤ 1 := of_decide_eq_true hres
  simp only [wfI] at hwf
  obtain ⟨_, _, wa, _, _, ⟨wt1, wt2⟩, ⟨_, wl⟩, _, we⟩ := hwf
  simp only [tagI] at htag
  simp only [depI, Nat.reduceAdd] at hdep
  simp only [numI] at hnum
  have ha := inU32 wa
  have htg : ∀ x ∈ tg, 0 ≤ x ∧ x < 4294967296 := fun x hx => by have := inU32 (wt2 x hx); omega
  have d1 := depL_in ll
  have d2 := depL_in le
  have hlab := labs_dead o t d
  have fitl : Fit ll c (o.length + 2) := ⟨hokl, wl, by omega, by omega, by omega⟩
  show ∃ R', Run X 83 [aggI op r a b nn tg ll le, sI .i64 c] R R' ∧ After o t R' (valI V (labs (o ++ [t])) (.mk op r a b nn tg ll le) n d c)
  by_cases o0 : op = 0
  · subst o0
    obtain ⟨R1, r1, a1, _⟩ := dead_run (X := X) g c
    refine ⟨R1, ins_dead r1, ?_⟩
    simp only [valI, if_true]
    exact a1
  by_cases o23 : op = 2 ∨ op = 3
  · obtain ⟨R1, R2, R3, r1, _, r2, r3, a3⟩ := inner_run hl g (op := op) (r := r) c (by omega) hr0 hr1 hh fitl
    refine ⟨R3, ins_opens (by omega) (opn_of (by omega) r1 r2 r3), ?_⟩
    rw [hlab] at a3
    have e1 : valI V (labs (o ++ [t])) (.mk op r a b nn tg ll le) n d c = (valL V ((if op = 3 then 0 else r.toNat) :: labs (o ++ [t])) ll 0 false c).and fun n1 d1 c1 => endV r.toNat n1 d1 c (.ok (n + r.toNat) d c1) := by
      simp only [valI]
      rw [if_neg o0, if_pos o23]
      cases valL V ((if op = 3 then 0 else r.toNat) :: labs (o ++ [t])) ll 0 false c <;> rfl
    rw [e1]
    exact after_dead a3
  by_cases o4 : op = 4
  · subst o4
    obtain ⟨R1, r1, a1, h1, x1⟩ := pop_run (X := X) g 1 c
    have e1 : valI V (labs (o ++ [t])) (.mk 4 r a b nn tg ll le) n d c = (popV c 1 n d fun m => .ok m d c).and fun n0 _ _ => (valL V (r.toNat :: labs (o ++ [t])) ll 0 false c).and fun n1 d1 c1 =>
        endV r.toNat n1 d1 c ((valL V (r.toNat :: labs (o ++ [t])) le 0 false c1).and fun n2 d2 c2 => endV r.toNat n2 d2 c (.ok (n0 + r.toNat) d c2)) := by
      simp only [valI]
      rw [if_neg o0, if_neg o23, if_true, popV_and]
      congr 1
    rw [e1]
    have hcnt : ∀ n0 d0 c0, (popV c 1 n d fun m => .ok m d c) = .ok n0 d0 c0 → d0 = d ∧ c0 = c := fun n0 d0 c0 hp => by
      obtain ⟨m, hm⟩ := popV_ok (c := 0) hp
      cases hm; exact ⟨rfl, rfl⟩
    dsimp only at a1
    generalize hvp : (popV c 1 n d fun m => VR.ok m d c) = vp at a1 hcnt
    cases vp with
    | bad e q =>
      have hb : R1.e ≠ 0 := by rw [a1.1]; exact a1.2.1
      exact ⟨R1, ins_opens (by omega) (opB_of hb r1 (entE hb) (bad_list hb ll (by have := numL_length ll; omega)) (leaE hb)), a1⟩
    | ok n0 d0 c0 =>
      obtain ⟨rfl, rfl⟩ := hcnt _ _ _ rfl
      have hnx := g.nx
      obtain ⟨R2, R3, R4, r2, k2, r3, r4, a4⟩ := inner_run hl a1 (op := 4) (r := r) c0 (by omega) hr0 hr1 (by omega) fitl
      rw [labs_dead, labs_dead, if_neg (by decide)] at a4
      simp only [VR.and]
      show ∃ R', _ ∧ After o t R' ((valL V (r.toNat :: labs (o ++ [t])) ll 0 false c0).and fun n1 d1 c1 => endV r.toNat n1 d1 c0 ((valL V (r.toNat :: labs (o ++ [t])) le 0 false c1).and fun n2 d2 c2 => endV r.toNat n2 d2 c0 (.ok (n0 + r.toNat) d0 c2)))
      have e2 : ((valL V (r.toNat :: labs (o ++ [t])) ll 0 false c0).and fun n1 d1 c1 => endV r.toNat n1 d1 c0 ((valL V (r.toNat :: labs (o ++ [t])) le 0 false c1).and fun n2 d2 c2 => endV r.toNat n2 d2 c0 (.ok (n0 + r.toNat) d0 c2))) =
          ((valL V (r.toNat :: labs (o ++ [t])) ll 0 false c0).and fun n1 d1 c1 => endV r.toNat n1 d1 c0 (.ok (n0 + r.toNat) d0 c1)).and fun _ _ c1 => (valL V (r.toNat :: labs (o ++ [t])) le 0 false c1).and fun n2 d2 c2 => endV r.toNat n2 d2 c0 (.ok (n0 + r.toNat) d0 c2) := by
        rw [and_and]
        cases valL V (r.toNat :: labs (o ++ [t])) ll 0 false c0 with
        | bad e q => rfl
        | ok n1 d1 c1 =>
          simp only [VR.and]
          rw [endV_and (a := n0 + r.toNat) (b := d0) (x := c1)]
          unfold endV popV
          split
          · rfl
          · dsimp only
            split <;> rfl
      rw [e2]
      have hc4 : ∀ n4 d4 c4, ((valL V (r.toNat :: labs (o ++ [t])) ll 0 false c0).and fun n1 d1 c1 => endV r.toNat n1 d1 c0 (.ok (n0 + r.toNat) d0 c1)) = .ok n4 d4 c4 → c0 ≤ c4 ∧ c4 ≤ c0 + numL ll := by
        intro n4 d4 c4 h4
        cases hvl : valL V (r.toNat :: labs (o ++ [t])) ll 0 false c0 with
        | bad e q => rw [hvl] at h4; cases h4
        | ok n1 d1 c1 =>
          rw [hvl] at h4
          have := endV_ok h4
          cases this
          exact valL_count V _ _ _ _ _ _ _ _ hvl
      have a4 := after_dead a4
      generalize hv4 : ((valL V (r.toNat :: labs (o ++ [t])) ll 0 false c0).and fun n1 d1 c1 => endV r.toNat n1 d1 c0 (.ok (n0 + r.toNat) d0 c1)) = v4 at a4 hc4
      have a4' : After o t R4 v4 := by
        rw [← hv4]; rw [← hv4] at a4; exact after_dead a4
      cases v4 with
      | bad e q =>
        have hb : R4.e ≠ 0 := by rw [a4'.1]; exact a4'.2.1
        exact ⟨R4, ins_opens (by omega) (opG_of (R5 := R4) (R6 := R4) r1 k2 r3 r4 (fun _ => rfl) (fun h => absurd h hb) (fun h => absurd h hb) (fun h => absurd h hb)), a4'⟩
      | ok n4 d4 c4 =>
        obtain ⟨hc41, hc42⟩ := hc4 _ _ _ rfl
        have gS : Good ⟨R1.h, R1.k, R1.cs, R4.e, R4.p, R4.nx⟩ o ⟨t.op, t.base, t.res, d0⟩ n0 c4 := ⟨⟨a1.h, a1.k, a1.cs, a1.ok⟩, a4'.e, a4'.nx, a4'.p0, by have := a1.le; simp only; omega⟩
        obtain ⟨R5, R6, R7, r5, _, r6, r7, a7⟩ := inner_run he gS (op := 5) (r := r) c0 (by omega) hr0 hr1 (by simp only; omega) ⟨hoke, we, by omega, by omega, by omega⟩
        rw [labs_dead, if_neg (by decide)] at a7
        exact ⟨R7, ins_opens (by omega) (opG_of r1 k2 r3 r4 (fun h => absurd a4'.e h) (fun _ => r5) (fun _ => r6) (fun _ => r7)), after_dead a7⟩
  have e0 : valI V (labs (o ++ [t])) (.mk op r a b nn tg ll le) n d c = flatV V (labs (o ++ [t])) op a tg n d c := by
    simp only [valI]
    rw [if_neg o0, if_neg o23, if_neg o4]
  rw [e0, ← hlab]
  obtain ⟨a, rfl⟩ := Int.eq_ofNat_of_zero_le ha.1
  have ha' : a < 4294967296 := by omega
  have hc9 : c ≤ 1000000000 := by omega
  have fin : ∀ {R' : Rw} {v : VR}, Run X 83 [aggI op r a b nn tg ll le, sI .i64 c] R R' ∧ After o ⟨t.op, t.base, t.res, d⟩ R' v → Run X 83 [aggI op r a b nn tg ll le, sI .i64 c] R R' ∧ After o t R' v := fun h => ⟨h.1, after_dead h.2⟩
  by_cases o12 : op = 12
  · subst o12
    obtain ⟨R', h⟩ := br_run (V := V) (r := r) (b := b) (nn := nn) (tg := tg) (ll := ll) (le := le) g a ha'
    exact ⟨R', fin h⟩
  by_cases o13 : op = 13
  · subst o13
    obtain ⟨R', h⟩ := brif_run (V := V) (r := r) (b := b) (nn := nn) (tg := tg) (ll := ll) (le := le) g hh hc9 a ha'
    exact ⟨R', fin h⟩
  by_cases o14 : op = 14
  · subst o14
    obtain ⟨R', h1, h2⟩ := table_run (V := V) (r := r) (a := a) (b := b) (nn := nn) (tg := tg) (ll := ll) (le := le) g ⟨by omega, by omega⟩ htg (by omega)
    exact ⟨R', fin ⟨ins_table h1, h2⟩⟩
  by_cases o15 : op = 15
  · subst o15
    obtain ⟨R', h⟩ := ret_run (r := r) (b := b) (nn := nn) (tg := tg) (ll := ll) (le := le) hv g a
    exact ⟨R', fin h⟩
  by_cases o16 : op = 16
  · subst o16
    obtain ⟨R', h⟩ := call_run (r := r) (b := b) (nn := nn) (tg := tg) (ll := ll) (le := le) hv g hh hc9 a ha'
    exact ⟨R', fin h⟩
  by_cases o17 : op = 17
  · subst o17
    obtain ⟨R', h⟩ := ind_run (r := r) (b := b) (nn := nn) (tg := tg) (ll := ll) (le := le) hv g hh hc9 a ha'
    exact ⟨R', fin h⟩
  · obtain ⟨R', h1, h2⟩ := plain_run (r := r) (b := b) (nn := nn) (tg := tg) (ll := ll) (le := le) hv g hh hc9 (op := op) ha'
    refine ⟨R', fin ⟨ins_plain (by omega) h1, ?_⟩⟩
    have e1 : flatV V (labs (o ++ [⟨t.op, t.base, t.res, d⟩])) op a tg n d c = if nameV V op a ≠ 0 then .bad (nameV V op a) c else popV c (takesF op) n d fun n1 => .ok (n1 + tellsF op) d c := by
      unfold flatV
      rw [if_neg o12, if_neg o13, if_neg o14, if_neg o15, if_neg o16, if_neg o17]
    rw [e1]
    exact h2

theorem list_run (hv : VOk X V) : ∀ l : List Ins, CL X V l := by
  refine ins_rec fun l hl => ?_
  intro R o t n c hf g
  refine list_of (V := V) (by have := numL_length l; have := hf.num; omega) (fun x hx => ?_) hf.num g
  obtain ⟨h1, h2⟩ := hl x hx
  have := hf.tag
  have := hf.dep
  have ht := tagL_mem x hx
  have hd := depL_mem (d := 1) x hx
  exact instr_run hv x h1 h2 (okL_mem hf.res x hx) (wfL_mem hf.wf x hx) (by omega) (by omega)

end
end Go.Proofs.YtgbphddecpjlhaaGreatDoor.N
end
