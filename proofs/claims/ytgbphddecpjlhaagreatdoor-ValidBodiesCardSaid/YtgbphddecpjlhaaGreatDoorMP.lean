/-
  The document's judge: what plain instructions name, take and tell.
  The document's judge: a jump by a table.
  More labels, and a place that is not reached: what is right stays right. (Plain facts; no program in sight.)
  How much what is right counts; and the judge's lists.
  The document's judge: a list is what valL says.
  The document's judge: any list of instructions.
-/
import Derived.Test.YtgbphddecpjlhaaGreatDoorMO
import Derived.Test.YtgbphddecpjlhaaGreatDoorMH

section
set_option linter.unusedSimpArgs false
set_option linter.unusedVariables false
namespace Go.Proofs.YtgbphddecpjlhaaGreatDoor.N
open Go Go.Am

section
variable {J : Jd} {V : VEnv} {op r b nn : Int} {tg : List Int} {ll le : List Ins} {n c : Nat} {d : Bool}

theorem jn_does (hJ : JOk J V) (op : Int) (a : Nat) (ha : a < 4294967296) (c x : Int) :
    Does Tryz.prog env 124 [.mp 0 0, aggI op r a b nn tg ll le, sI .i64 x] (jM J c 0 0) (.tup []) (jM J c (nameV V op a) (if nameV V op a = 0 then 0 else x)) := by
  have hal := jal_does op
  have w1 : IntKind.i64.wrap (a : Int) = a := i64In (by omega) (by omega)
  have hown : J.own = V.own := hJ.v.own
  have hgl : J.M.glN = V.glob.length := hJ.v.glN
  have hgm := hJ.v.glM
  have hme : V.mem = decide (0 < J.M.meN) := hJ.v.me
  have L0 : nameV V op a = 0 → Out.ret (.tup []) (jM J c 0 0) = Out.ret (.tup []) (jM J c (nameV V op a) (if nameV V op a = 0 then 0 else x)) := fun h => by rw [h]; rfl
  have L1 : ∀ w, nameV V op a = w → w ≠ 0 → Out.ret (.tup []) (jM J c w x) = Out.ret (.tup []) (jM J c (nameV V op a) (if nameV V op a = 0 then 0 else x)) := fun w h hw => by rw [h, if_neg hw]
  by_cases o1 : 32 ≤ op ∧ op ≤ 34
  · have hn : nameV V op a = if (a : Int) < V.own then 0 else 6 := by unfold nameV; rw [if_pos (by omega)]
    have d1 : decide (op ≥ 32) = true := by simp; omega
    have d2 : decide (op ≤ 34) = true := by simp; omega
    refine Does.fromW (does_of_tree names (jnaF_tree J c op r a b nn tg ll le x (alignV op) (isStV op) false false) ?_)
    simp only [jnaFTree, Tree.ok, d1, d2, w1, Bool.false_eq_true, Bool.true_eq_false, false_implies, true_implies, and_true]
    refine ⟨Does.toW hal, fun h => ?_, fun h => ?_⟩
    · rw [hown] at h; exact L1 6 (by rw [hn, if_neg]; simpa using h) (by decide)
    · rw [hown] at h; exact L0 (by rw [hn, if_pos]; simpa using h)
  by_cases o36 : op = 36
  · subst o36
    have d1 : decide ((36 : Int) ≥ 32) = true := rfl
    have d2 : decide ((36 : Int) ≤ 34) = false := rfl
    have d3 : ((36 : Int) == 35) = false := rfl
    have d4 : ((36 : Int) == 36) = true := rfl
    by_cases h : V.glob.length ≤ a
    · have n1 : nameV V 36 a = 6 := by
        unfold nameV
        rw [if_neg (by decide), if_pos rfl, Int.toNat_natCast, List.getElem?_eq_none h]
      have d5 : decide ((a : Int) ≥ J.M.glN) = true := by simp; omega
      refine Does.fromW (does_of_tree names (jnaT_tree J c 36 r a b nn tg ll le x (alignV 36) (isStV 36) true false) ?_)
      simp only [jnaTTree, Tree.ok, d1, d2, d3, d4, d5, w1, Bool.false_eq_true, Bool.true_eq_false, false_implies, true_implies, and_true, true_and]
      exact ⟨Does.toW hal, L1 6 n1 (by decide)⟩
    · have d5 : decide ((a : Int) ≥ J.M.glN) = false := by simp; omega
      obtain ⟨mu, hmu⟩ : ∃ mu, V.glob[a]? = some mu := ⟨_, List.getElem?_eq_getElem (by omega)⟩
      have hg : J.M.glC.getD (a * 2 + 0) .bad = .sc (.bool mu) := hJ.v.gl a mu hmu
      have n1 : nameV V 36 a = if mu = true then 0 else 212 := by
        unfold nameV
        rw [if_neg (by decide), if_pos rfl, Int.toNat_natCast, hmu]
        cases mu <;> rfl
      refine Does.fromW (does_of_tree names (jnaT_tree J c 36 r a b nn tg ll le x (alignV 36) (isStV 36) true false) ?_)
      have hi : inB (a : Int) J.M.glN = true := by unfold inB; simp; omega
      simp only [jnaTTree, Tree.ok, d1, d2, d3, d4, d5, w1, hi, hg, Int.toNat_natCast, isBool, pvBool, eqAV, Bool.and_true, Bool.false_eq_true, Bool.true_eq_false, false_implies, true_implies, and_true, true_and]
      refine ⟨Does.toW hal, by decide, fun h => ?_, fun h => ?_⟩
      · exact L1 212 (by rw [n1, if_neg (by simpa using h)]) (by decide)
      · exact L0 (by rw [n1, if_pos (by simpa using h)])
  have d1 : decide (op ≥ 32) = true → decide (op ≤ 34) = true → False := fun h1 h2 => o1 ⟨by simpa using h1, by simpa using h2⟩
  have d4 : (op == 36) = false := by simpa using o36
  by_cases o35 : op = 35
  · subst o35
    have n1 : nameV V 35 a = if (a : Int) < V.glob.length then 0 else 6 := by unfold nameV; rw [if_neg (by decide), if_neg (by decide), if_pos rfl]
    have d1 : decide ((35 : Int) ≥ 32) = true := rfl
    have d2 : decide ((35 : Int) ≤ 34) = false := rfl
    have d3 : ((35 : Int) == 35) = true := rfl
    refine Does.fromW (does_of_tree names (jnaF_tree J c 35 r a b nn tg ll le x (alignV 35) (isStV 35) false false) ?_)
    simp only [jnaFTree, Tree.ok, d1, d2, d3, d4, w1, eqAV, Bool.and_true, Bool.false_eq_true, Bool.true_eq_false, false_implies, true_implies, and_true, true_and]
    refine ⟨Does.toW hal, fun h => ?_, fun h => ⟨by decide, ?_⟩⟩
    · rw [hgl] at h; exact L1 6 (by rw [n1, if_neg]; simpa using h) (by decide)
    · rw [hgl] at h; exact L0 (by rw [n1, if_pos]; simpa using h)
  have d3 : (op == 35) = false := by simpa using o35
  have n1 : nameV V op a = if op = 63 ∨ op = 64 then (if V.mem = true then 0 else 6)
    else if isStV op = true then (if V.mem = true then (if alignV op < a then 211 else 0) else 6)
    else 0 := by
    unfold nameV
    rw [if_neg (by omega), if_neg o36, if_neg o35]
  refine Does.fromW (does_of_tree names (jnaF_tree J c op r a b nn tg ll le x (alignV op) (isStV op) false false) ?_)
  by_cases hs : isStV op = true
  · have o6 : ¬ (op = 63 ∨ op = 64) := by
      unfold isStV at hs
      simp only [decide_eq_true_eq] at hs
      omega
    rw [if_neg o6, if_pos hs] at n1
    have M1 : ((J.M.meN : Int) == 0) = true → nameV V op a = 6 := fun h => by
      have h : J.M.meN = 0 := by simpa using h
      rw [n1, hme, h]; rfl
    have M2 : ((J.M.meN : Int) == 0) = false → nameV V op a = if alignV op < a then 211 else 0 := fun h => by
      have h : J.M.meN ≠ 0 := by simpa using h
      rw [n1, hme, if_pos (by simp; omega)]
    have key : (((J.M.meN : Int) == 0) = true → isStV op = true ∧ (decide ((a : Int) > alignV op) = true → Out.ret (.tup []) (jM J c 6 x) = Out.ret (.tup []) (jM J c (nameV V op a) (if nameV V op a = 0 then 0 else x))) ∧ (decide ((a : Int) > alignV op) = false → Out.ret (.tup []) (jM J c 6 x) = Out.ret (.tup []) (jM J c (nameV V op a) (if nameV V op a = 0 then 0 else x)))) ∧
        (((J.M.meN : Int) == 0) = false → isStV op = true ∧ (decide ((a : Int) > alignV op) = true → Out.ret (.tup []) (jM J c 211 x) = Out.ret (.tup []) (jM J c (nameV V op a) (if nameV V op a = 0 then 0 else x))) ∧ (decide ((a : Int) > alignV op) = false → Out.ret (.tup []) (jM J c 0 0) = Out.ret (.tup []) (jM J c (nameV V op a) (if nameV V op a = 0 then 0 else x)))) :=
      ⟨fun h => ⟨hs, fun _ => L1 6 (M1 h) (by decide), fun _ => L1 6 (M1 h) (by decide)⟩, fun h => ⟨hs, fun q => L1 211 (by rw [M2 h, if_pos]; simpa using q) (by decide), fun q => L0 (by rw [M2 h, if_neg]; simpa using q)⟩⟩
    simp only [jnaFTree, Tree.ok, d3, d4, Bool.false_eq_true, Bool.true_eq_false, false_implies, true_implies, and_true, true_and, Bool.not_false]
    refine ⟨Does.toW hal, fun h1 => ⟨fun h2 => (d1 h1 h2).elim, fun _ => ⟨fun _ => key, fun q => ?_⟩⟩, fun _ => ⟨fun _ => key, fun q => ?_⟩⟩
    · exact absurd (hs.symm.trans q) (by decide)
    · exact absurd (hs.symm.trans q) (by decide)
  · have hs : isStV op = false := by simpa using hs
    rw [hs, if_neg (c := false = true) (by decide)] at n1
    rw [hs] at hal
    have M1 : (op = 63 ∨ op = 64) → ((J.M.meN : Int) == 0) = true → nameV V op a = 6 := fun o h => by
      have h : J.M.meN = 0 := by simpa using h
      rw [n1, if_pos o, hme, h]; rfl
    have M2 : (op = 63 ∨ op = 64) → ((J.M.meN : Int) == 0) = false → nameV V op a = 0 := fun o h => by
      have h : J.M.meN ≠ 0 := by simpa using h
      rw [n1, if_pos o, hme, if_pos (by simp; omega)]
    have M3 : ¬ (op = 63 ∨ op = 64) → nameV V op a = 0 := fun o => by rw [n1, if_neg o]
    simp only [jnaFTree, Tree.ok, d3, d4, hs, Bool.false_eq_true, Bool.true_eq_false, false_implies, true_implies, and_true, true_and, Bool.not_false]
    refine ⟨Does.toW hal, fun h1 => ⟨fun h2 => (d1 h1 h2).elim, fun _ => ⟨fun o => ?_, fun o => ⟨fun o2 => ?_, fun o2 => ?_⟩⟩⟩, fun h1 => ?_⟩
    · have o : op = 63 ∨ op = 64 := .inl (by simpa using o)
      exact ⟨fun q => L1 6 (M1 o q) (by decide), fun q => L0 (M2 o q)⟩
    · have o : op = 63 ∨ op = 64 := .inr (by simpa using o2)
      exact ⟨fun q => L1 6 (M1 o q) (by decide), fun q => L0 (M2 o q)⟩
    · have o : ¬ (op = 63 ∨ op = 64) := by
        simp only [beq_eq_false_iff_ne, ne_eq] at o o2
        exact fun q => q.elim o o2
      exact L0 (M3 o)
    · have h1 : ¬ (op ≥ 32) := by simpa using h1
      exact ⟨by simp; omega, by simp; omega, L0 (M3 (by omega))⟩

theorem jplain_run (hJ : JOk J V) (hn : n ≤ 1000000000) (a : Nat) (ha : a < 4294967296) (ls : List Nat)
    (ho : op ≠ 0 ∧ op ≠ 2 ∧ op ≠ 3 ∧ op ≠ 4 ∧ op ≠ 12 ∧ op ≠ 13 ∧ op ≠ 14 ∧ op ≠ 15 ∧ op ≠ 16 ∧ op ≠ 17) : JRunF J 92 (aggI op r a b nn tg ll le) n d c (flatV V ls op a tg n d c) := by
  obtain ⟨o0, o2, o3, o4, o12, o13, o14, o15, o16, o17⟩ := ho
  have hk : takesF op ≤ 3 := takesF_le op
  have ht : tellsF op ≤ 1 := tellsF_le op
  have hnm := jn_does (r := r) (b := b) (nn := nn) (tg := tg) (ll := ll) (le := le) hJ op a ha c c
  have hsh := shr_does op
  obtain ⟨e2, p2, hd, hC, hD⟩ := jp_any (J := J) (n := n) (k := takesF op) d hn (by omega) c (nameV V op a) (if nameV V op a = 0 then 0 else c) c
  have w : IntKind.i64.wrap (((n - takesF op : Nat) : Int) + (tellsF op : Nat)) = ((n - takesF op + tellsF op : Nat) : Int) := by rw [i64In (by omega) (by omega)]; rfl
  have f0 : (op == 0) = false := by simpa using o0
  have f2 : (op == 2) = false := by simpa using o2
  have f3 : (op == 3) = false := by simpa using o3
  have f4 : (op == 4) = false := by simpa using o4
  have f12 : (op == 12) = false := by simpa using o12
  have f13 : (op == 13) = false := by simpa using o13
  have f14 : (op == 14) = false := by simpa using o14
  have f15 : (op == 15) = false := by simpa using o15
  have f16 : (op == 16) = false := by simpa using o16
  have f17 : (op == 17) = false := by simpa using o17
  refine ⟨hv (n - takesF op + tellsF op : Nat) d, jM J c e2 p2, does_of_tree names (jon_tree J c op r a b nn tg ll le n d c (n - takesF op : Nat) d 0 e2 p2 0 0 0 (nameV V op a) (if nameV V op a = 0 then 0 else c) (takesF op : Nat) (tellsF op : Nat) (hasShape op)) ?_, ?_⟩
  · simp only [jonTree, Tree.ok, f0, f2, f3, f4, f12, f13, f14, f15, f16, f17, w, Bool.false_eq_true, false_implies, true_implies, true_and]
    exact ⟨hnm, hsh, hd, rfl⟩
  unfold flatV
  rw [if_neg o12, if_neg o13, if_neg o14, if_neg o15, if_neg o16, if_neg o17]
  by_cases hz : nameV V op a = 0
  · rw [if_neg (by simpa using hz)]
    unfold popV
    rcases hD hz with ⟨h1, rfl, rfl⟩ | ⟨h1, rfl, rfl⟩
    · rw [if_neg h1, if_pos hz]; exact ⟨rfl, rfl, rfl⟩
    · rw [if_pos h1]; exact ⟨_, _, rfl, rfl⟩
  · rw [if_pos hz]
    obtain ⟨h1, h2⟩ := hC hz
    rw [h1, h2, if_neg hz]
    exact ⟨_, _, rfl, rfl⟩

theorem JOutF.is {J : Jd} {c : Nat} {r : VR} {v : AV} {m : Mem} (h : JOutF J c r v m) : ∃ (n1 : Int) (d1 : Bool) (e1 p1 : Int), v = hv n1 d1 ∧ m = jM J c e1 p1 := by
  cases r with
  | ok n d c' => exact ⟨_, _, _, _, h.1, h.2.1⟩
  | bad e p => obtain ⟨n, d, h1, h2⟩ := h; exact ⟨n, d, e, p, h1, h2⟩

theorem JRunF.run {J : Jd} {f : FuncId} {x : AV} {n : Nat} {d : Bool} {c : Nat} {r : VR} (h : JRunF J f x n d c r) : JRun J f x n d c r := by
  obtain ⟨v, m, hd, ho⟩ := h
  refine ⟨v, m, hd, ?_⟩
  cases r with
  | ok n d c' => obtain ⟨h1, h2, rfl⟩ := ho; exact ⟨h1, h2⟩
  | bad e p => obtain ⟨n, d, h1, h2⟩ := ho; exact ⟨n, d, c, h1, h2⟩

theorem jone_jump {a : Int} {v : VR} (ho : op = 12 ∨ op = 13 ∨ op = 14 ∨ op = 15) (h : JRunF J 122 (aggI op r a b nn tg ll le) n d c v) : JRunF J 92 (aggI op r a b nn tg ll le) n d c v := by
  obtain ⟨w, m, hd, hq⟩ := h
  refine ⟨w, m, ?_, hq⟩
  obtain ⟨n1, d1, e1, p1, rfl, rfl⟩ := hq.is
  refine does_of_tree names (jon_tree J c op r a b nn tg ll le n d c n1 d1 0 e1 p1 0 0 0 0 0 0 0 false) ?_
  rcases ho with rfl | rfl | rfl | rfl <;>
  · simp only [jonTree, Tree.ok, Int.reduceBEq, Bool.false_eq_true, Bool.true_eq_false, false_implies, true_implies, true_and, and_true]
    exact ⟨hd, rfl⟩

theorem jone_call {a : Int} {v : VR} (ho : op = 16 ∨ op = 17) (h : JRunF J 123 (aggI op r a b nn tg ll le) n d c v) : JRunF J 92 (aggI op r a b nn tg ll le) n d c v := by
  obtain ⟨w, m, hd, hq⟩ := h
  refine ⟨w, m, ?_, hq⟩
  obtain ⟨n1, d1, e1, p1, rfl, rfl⟩ := hq.is
  refine does_of_tree names (jon_tree J c op r a b nn tg ll le n d c n1 d1 0 e1 p1 0 0 0 0 0 0 0 false) ?_
  rcases ho with rfl | rfl <;>
  · simp only [jonTree, Tree.ok, Int.reduceBEq, Bool.false_eq_true, Bool.true_eq_false, false_implies, true_implies, true_and, and_true]
    exact ⟨hd, rfl⟩

theorem jone_dead {a : Int} : JRunF J 92 (aggI 0 r a b nn tg ll le) n d c (.ok 0 true c) := by
  refine ⟨hv (0 : Nat) true, jM J c 0 0, does_of_tree names (jon_tree J c 0 r a b nn tg ll le n d c 0 false 0 0 0 0 0 0 0 0 0 0 false) ?_, rfl, rfl, rfl⟩
  simp only [jonTree, Tree.ok, Int.reduceBEq, Bool.false_eq_true, Bool.true_eq_false, false_implies, true_implies, true_and, and_true]
  rfl

end
end Go.Proofs.YtgbphddecpjlhaaGreatDoor.N
end

section
set_option linter.unusedSimpArgs false
set_option linter.unusedVariables false
namespace Go.Proofs.YtgbphddecpjlhaaGreatDoor.N
open Go Go.Am

def xC (r a b nn : Int) (tg : List Int) (ll le : List Ins) : List PV := [.sc (.int .i64 14), .sc (.int .i64 r), .sc (.int .u32 a), .sc (.int .u32 b), .sc (.int .i32 nn), .ps tg.length 1 (encT .u32 tg), .ps ll.length 8 (encL ll), .ps le.length 8 (encL le)]
def tkS (J : Jd) (c e p : Int) (r a b nn : Int) (tg : List Int) (ll le : List Ins) (n : Int) (d : Bool) (x : Int) (i : Nat) (t k k2 e1 p1 e2 p2 n1 e3 p3 n2 e4 p4 : Int) : FuncId → Nat → Nat → Option (AV → AV) := shapeAt [(122, 19, 5, sI .u32 t), (122, 18, 1, sI .i64 (i + 1 : Nat)), (122, 24, 5, sI .u32 t), (122, 23, 1, sI .i64 (i + 1 : Nat))]
noncomputable def tkaOrc (J : Jd) (c e p r a b nn : Int) (tg : List Int) (ll : List Ins) (le : List Ins) (n : Int) (d : Bool) (x : Int) (i : Nat) (t k k2 e1 p1 e2 p2 n1 e3 p3 n2 e4 p4 : Int) : Orc := orcS noCall noLed [(122, 3), (122, 5)] [(122, 0, 4)] [(122, 19, 4), (122, 19, 5)] (tkS J c e p r a b nn tg ll le n d x i t k k2 e1 p1 e2 p2 n1 e3 p3 n2 e4 p4)
noncomputable def tkaSc (J : Jd) (c e p r a b nn : Int) (tg : List Int) (ll : List Ins) (le : List Ins) (n : Int) (d : Bool) (x : Int) (i : Nat) (t k k2 e1 p1 e2 p2 n1 e3 p3 n2 e4 p4 : Int) : Sc := (.fork (.ans 145 (sI .i64 k) ([jK J c e1 p1, .tok]) .fin) (.ans 145 (sI .i64 k) ([jK J c e1 p1, .tok]) .fin))
noncomputable def tkaTree (J : Jd) (c e p r a b nn : Int) (tg : List Int) (ll : List Ins) (le : List Ins) (n : Int) (d : Bool) (x : Int) (i : Nat) (t k k2 e1 p1 e2 p2 n1 e3 p3 n2 e4 p4 : Int) : Tree :=
 (.test (decide ((↑i : Int) < (↑tg.length : Int)))
 (.must (inB (↑i : Int) tg.length && true && true)
 (.must (isInt IntKind.u32 ((encT IntKind.u32 tg).getD ((↑i : Int).toNat * 1) PV.bad) && true)
 (.need (sI .u32 (pvInt ((encT IntKind.u32 tg).getD ((↑i : Int).toNat * 1) PV.bad)) = sI IntKind.u32 t)
 (.call ⟨145, [.mp 0 0, sI .u32 t, sI .i64 x], [jK J c e p, .tok], sI .i64 k, [jK J c e1 p1, .tok]⟩
 (.need (sI .i64 (IntKind.i64.wrap ((↑i : Int) + 1)) = sI IntKind.i64 (↑(i + 1) : Int))
 (.at (bodyCfg Tryz.prog env 122 3 [.mp 0 0, sI .i64 x, .mp 2 0, .mp 3 0, .mp 4 0, sI .i64 (↑(i + 1) : Int)] ([jK J c e1 p1, .tok, .pc [sP 14, sP r, .sc (.int .u32 a), .sc (.int .u32 b), .sc (.int .i32 nn), .ps tg.length 1 (encT IntKind.u32 tg), .ps ll.length 8 (encL ll), .ps le.length 8 (encL le)], .pc [sP n, .sc (.bool d)], .pc [sP 0, .sc (.bool false)]]) 2 120)))))))
 (.call ⟨145, [.mp 0 0, sI .u32 a, sI .i64 x], [jK J c e p, .tok], sI .i64 k, [jK J c e1 p1, .tok]⟩
 (.at (bodyCfg Tryz.prog env 122 5 [.mp 0 0, sI .i64 x, .mp 2 0, .mp 3 0, .mp 4 0, sI .i64 k, sI .i64 0] ([jK J c e1 p1, .tok, .pc [sP 14, sP r, .sc (.int .u32 a), .sc (.int .u32 b), .sc (.int .i32 nn), .ps tg.length 1 (encT IntKind.u32 tg), .ps ll.length 8 (encL ll), .ps le.length 8 (encL le)], .pc [sP n, .sc (.bool d)], .pc [sP 0, .sc (.bool false)]]) 2 120))))
theorem tka_tree (J : Jd) (c e p r a b nn : Int) (tg : List Int) (ll : List Ins) (le : List Ins) (n : Int) (d : Bool) (x : Int) (i : Nat) (t k k2 e1 p1 e2 p2 n1 e3 p3 n2 e4 p4 : Int) : grow Tryz.prog env (tkaOrc J c e p r a b nn tg ll le n d x i t k k2 e1 p1 e2 p2 n1 e3 p3 n2 e4 p4) 1000000 true (bodyCfg Tryz.prog env 122 3 ([AV.mp 0 0, sI IntKind.i64 x, AV.mp 2 0, AV.mp 3 0, AV.mp 4 0, sI IntKind.i64 (↑i : Int)]) ([jB J c e p, Blk.tok, Blk.pc (xC r a b nn tg ll le), Blk.pc [PV.sc (Value.int IntKind.i64 n), PV.sc (Value.bool d)], Blk.pc [PV.sc (Value.int IntKind.i64 0), PV.sc (Value.bool false)]]) 2 120) (tkaSc J c e p r a b nn tg ll le n d x i t k k2 e1 p1 e2 p2 n1 e3 p3 n2 e4 p4) atEnd = tkaTree J c e p r a b nn tg ll le n d x i t k k2 e1 p1 e2 p2 n1 e3 p3 n2 e4 p4 := by kernel_rfl

noncomputable def tkbOrc (J : Jd) (c e p r a b nn : Int) (tg : List Int) (ll : List Ins) (le : List Ins) (n : Int) (d : Bool) (x : Int) (i : Nat) (t k k2 e1 p1 e2 p2 n1 e3 p3 n2 e4 p4 : Int) : Orc := orcS noCall noLed [(122, 3), (122, 5)] [(122, 22, 6), (122, 0, 6), (122, 0, 7), (94, 0, 0)] [(122, 24, 4), (122, 24, 5)] (tkS J c e p r a b nn tg ll le n d x i t k k2 e1 p1 e2 p2 n1 e3 p3 n2 e4 p4)
noncomputable def tkbSc (J : Jd) (c e p r a b nn : Int) (tg : List Int) (ll : List Ins) (le : List Ins) (n : Int) (d : Bool) (x : Int) (i : Nat) (t k k2 e1 p1 e2 p2 n1 e3 p3 n2 e4 p4 : Int) : Sc := (.fork (.fork (.ans 145 (sI .i64 k2) ([jK J c e1 p1, .tok]) .fin) (.ans 93 (.agg [sI .i64 n1, .p (.sc (.bool d))]) ([jK J c e3 p3, .tok]) (.ans 93 (.agg [sI .i64 n2, .p (.sc (.bool d))]) ([jK J c e4 p4, .tok]) .fin))) (.lit (.ans 93 (.agg [sI .i64 n1, .p (.sc (.bool d))]) ([jK J c e3 p3, .tok]) (.ans 93 (.agg [sI .i64 n2, .p (.sc (.bool d))]) ([jK J c e4 p4, .tok]) .fin))))
noncomputable def tkbTree (J : Jd) (c e p r a b nn : Int) (tg : List Int) (ll : List Ins) (le : List Ins) (n : Int) (d : Bool) (x : Int) (i : Nat) (t k k2 e1 p1 e2 p2 n1 e3 p3 n2 e4 p4 : Int) : Tree :=
 (.test (decide ((↑i : Int) < (↑tg.length : Int)))
 (.test (e == 0)
 (.must (inB (↑i : Int) tg.length && true && true)
 (.must (isInt IntKind.u32 ((encT IntKind.u32 tg).getD ((↑i : Int).toNat * 1) PV.bad) && true)
 (.need (sI .u32 (pvInt ((encT IntKind.u32 tg).getD ((↑i : Int).toNat * 1) PV.bad)) = sI IntKind.u32 t)
 (.call ⟨145, [.mp 0 0, sI .u32 t, sI .i64 x], [jK J c e p, .tok], sI .i64 k2, [jK J c e1 p1, .tok]⟩
 (.test (k2 != k)
 (.test (e1 == 0)
 (.need (sI .i64 (IntKind.i64.wrap ((↑i : Int) + 1)) = sI IntKind.i64 (↑(i + 1) : Int))
 (.at (bodyCfg Tryz.prog env 122 5 [.mp 0 0, sI .i64 x, .mp 2 0, .mp 3 0, .mp 4 0, sI .i64 k, sI .i64 (↑(i + 1) : Int)] ([jK J c 214 x, .tok, .pc [sP 14, sP r, .sc (.int .u32 a), .sc (.int .u32 b), .sc (.int .i32 nn), .ps tg.length 1 (encT IntKind.u32 tg), .ps ll.length 8 (encL ll), .ps le.length 8 (encL le)], .pc [sP n, .sc (.bool d)], .pc [sP 0, .sc (.bool false)]]) 2 120)))
 (.need (sI .i64 (IntKind.i64.wrap ((↑i : Int) + 1)) = sI IntKind.i64 (↑(i + 1) : Int))
 (.at (bodyCfg Tryz.prog env 122 5 [.mp 0 0, sI .i64 x, .mp 2 0, .mp 3 0, .mp 4 0, sI .i64 k, sI .i64 (↑(i + 1) : Int)] ([jK J c e1 p1, .tok, .pc [sP 14, sP r, .sc (.int .u32 a), .sc (.int .u32 b), .sc (.int .i32 nn), .ps tg.length 1 (encT IntKind.u32 tg), .ps ll.length 8 (encL ll), .ps le.length 8 (encL le)], .pc [sP n, .sc (.bool d)], .pc [sP 0, .sc (.bool false)]]) 2 120))))
 (.need (sI .i64 (IntKind.i64.wrap ((↑i : Int) + 1)) = sI IntKind.i64 (↑(i + 1) : Int))
 (.at (bodyCfg Tryz.prog env 122 5 [.mp 0 0, sI .i64 x, .mp 2 0, .mp 3 0, .mp 4 0, sI .i64 k, sI .i64 (↑(i + 1) : Int)] ([jK J c e1 p1, .tok, .pc [sP 14, sP r, .sc (.int .u32 a), .sc (.int .u32 b), .sc (.int .i32 nn), .ps tg.length 1 (encT IntKind.u32 tg), .ps ll.length 8 (encL ll), .ps le.length 8 (encL le)], .pc [sP n, .sc (.bool d)], .pc [sP 0, .sc (.bool false)]]) 2 120))))))))
 (.call ⟨93, [.mp 0 0, .agg [sI .i64 n, .p (.sc (.bool d))], sI .i64 1, sI .i64 x], [jK J c e p, .tok], .agg [sI .i64 n1, .p (.sc (.bool d))], [jK J c e3 p3, .tok]⟩
 (.call ⟨93, [.mp 0 0, .agg [sI .i64 n1, .p (.sc (.bool d))], sI .i64 k, sI .i64 x], [jK J c e3 p3, .tok], .agg [sI .i64 n2, .p (.sc (.bool d))], [jK J c e4 p4, .tok]⟩
 (.out (.ret (.agg [sI .i64 0, sB true]) [jK J c e4 p4, .tok])))))
 (.call ⟨93, [.mp 0 0, .agg [sI .i64 n, .p (.sc (.bool d))], sI .i64 1, sI .i64 x], [jK J c e p, .tok], .agg [sI .i64 n1, .p (.sc (.bool d))], [jK J c e3 p3, .tok]⟩
 (.call ⟨93, [.mp 0 0, .agg [sI .i64 n1, .p (.sc (.bool d))], sI .i64 k, sI .i64 x], [jK J c e3 p3, .tok], .agg [sI .i64 n2, .p (.sc (.bool d))], [jK J c e4 p4, .tok]⟩
 (.out (.ret (.agg [sI .i64 0, sB true]) [jK J c e4 p4, .tok])))))
theorem tkb_tree (J : Jd) (c e p r a b nn : Int) (tg : List Int) (ll : List Ins) (le : List Ins) (n : Int) (d : Bool) (x : Int) (i : Nat) (t k k2 e1 p1 e2 p2 n1 e3 p3 n2 e4 p4 : Int) : grow Tryz.prog env (tkbOrc J c e p r a b nn tg ll le n d x i t k k2 e1 p1 e2 p2 n1 e3 p3 n2 e4 p4) 1000000 true (bodyCfg Tryz.prog env 122 5 ([AV.mp 0 0, sI IntKind.i64 x, AV.mp 2 0, AV.mp 3 0, AV.mp 4 0, sI IntKind.i64 k, sI IntKind.i64 (↑i : Int)]) ([jB J c e p, Blk.tok, Blk.pc (xC r a b nn tg ll le), Blk.pc [PV.sc (Value.int IntKind.i64 n), PV.sc (Value.bool d)], Blk.pc [PV.sc (Value.int IntKind.i64 0), PV.sc (Value.bool false)]]) 2 120) (tkbSc J c e p r a b nn tg ll le n d x i t k k2 e1 p1 e2 p2 n1 e3 p3 n2 e4 p4) atEnd = tkbTree J c e p r a b nn tg ll le n d x i t k k2 e1 p1 e2 p2 n1 e3 p3 n2 e4 p4 := by kernel_rfl

section
variable {J : Jd} {V : VEnv} {r b nn : Int} {tg : List Int} {ll le : List Ins} {n c k : Nat} {d : Bool}

abbrev popsV (c k n : Nat) (d : Bool) : VR := popV c 1 n d fun n1 => popV c k n1 d fun _ => .ok 0 true c

noncomputable abbrev cfgB (J : Jd) (c : Nat) (e p r a b nn : Int) (tg : List Int) (ll le : List Ins) (n : Nat) (d : Bool) (k i : Nat) : Cfg :=
  bodyCfg Tryz.prog env 122 5 [.mp 0 0, sI .i64 c, .mp 2 0, .mp 3 0, .mp 4 0, sI .i64 k, sI .i64 i] [jB J c e p, .tok, .pc (xC r a b nn tg ll le), .pc [.sc (.int .i64 n), .sc (.bool d)], .pc [.sc (.int .i64 0), .sc (.bool false)]] 2 120
noncomputable abbrev cfgA (J : Jd) (c : Nat) (e p r a b nn : Int) (tg : List Int) (ll le : List Ins) (n : Nat) (d : Bool) (i : Nat) : Cfg :=
  bodyCfg Tryz.prog env 122 3 [.mp 0 0, sI .i64 c, .mp 2 0, .mp 3 0, .mp 4 0, sI .i64 i] [jB J c e p, .tok, .pc (xC r a b nn tg ll le), .pc [.sc (.int .i64 n), .sc (.bool d)], .pc [.sc (.int .i64 0), .sc (.bool false)]] 2 120

theorem tabB_end (hn : n ≤ 1000000000) (hk : k ≤ 1) (hl : tg.length ≤ 1000000000) (a e p : Int) (i : Nat) (hi : i ≤ tg.length) (hz : e ≠ 0 ∨ i = tg.length) :
    ∃ e4 p4, Am.Good Tryz.prog env (cfgB J c e p r a b nn tg ll le n d k i) (.ret (hv (0 : Nat) true) (jM J c e4 p4)) ∧ (e ≠ 0 → e4 = e ∧ p4 = p) ∧ (e = 0 → p = 0 → JOutF J c (popsV c k n d) (hv (0 : Nat) true) (jM J c e4 p4)) := by
  obtain ⟨e3, p3, h3, hA, hB⟩ := jp_any (J := J) (n := n) (k := 1) d hn (by omega) c e p c
  obtain ⟨e4, p4, h4, hC, hD⟩ := jp_any (J := J) (n := n - 1) (k := k) d (by omega) (by omega) c e3 p3 c
  refine ⟨e4, p4, good_of_tree names (tkb_tree J c e p r a b nn tg ll le n d c i 0 k 0 0 0 0 0 (n - 1 : Nat) e3 p3 (n - 1 - k : Nat) e4 p4) ?_, fun he => ?_, fun he hp => ?_⟩
  · by_cases he : e = 0
    · have hi : i = tg.length := by rcases hz with h | h; exact absurd he h; exact h
      have d1 : decide ((i : Int) < tg.length) = false := by simp; omega
      simp only [tkbTree, Tree.ok, d1, Bool.false_eq_true, false_implies, true_implies, true_and]
      exact ⟨h3, h4, rfl⟩
    · have d2 : (e == 0) = false := by simpa using he
      simp only [tkbTree, Tree.ok, d2, Bool.false_eq_true, false_implies, true_implies, true_and]
      exact ⟨fun _ => ⟨h3, h4, rfl⟩, fun _ => ⟨h3, h4, rfl⟩⟩
  · obtain ⟨rfl, rfl⟩ := hA he
    exact hC he
  · subst hp
    show JOutF J c (popV c 1 n d fun n1 => popV c k n1 d fun _ => .ok 0 true c) _ _
    unfold popV
    rcases hB he with ⟨h1, rfl, rfl⟩ | ⟨h1, rfl, rfl⟩
    · rw [if_neg h1]
      dsimp only
      rcases hD rfl with ⟨h1, rfl, rfl⟩ | ⟨h1, rfl, rfl⟩
      · rw [if_neg h1]; exact ⟨rfl, rfl, rfl⟩
      · rw [if_pos h1]; exact ⟨_, _, rfl, rfl⟩
    · rw [if_pos h1]
      obtain ⟨rfl, rfl⟩ := hC (by decide)
      exact ⟨_, _, rfl, rfl⟩

theorem tabB (hJ : JOk J V) (hn : n ≤ 1000000000) (hk : k ≤ 1) (hl : tg.length ≤ 1000000000) (ht : ∀ t ∈ tg, 0 ≤ t ∧ t < J.L.length) (a : Int) : ∀ m i : Nat, i + m = tg.length →
    ∃ e4 p4, Am.Good Tryz.prog env (cfgB J c 0 0 r a b nn tg ll le n d k i) (.ret (hv (0 : Nat) true) (jM J c e4 p4)) ∧
      JOutF J c (if (tg.drop i).all (fun t => J.L.reverse.getD t.toNat 0 == k) = true then popsV c k n d else .bad 214 c) (hv (0 : Nat) true) (jM J c e4 p4)
  | 0, i, hi => by
    obtain ⟨e4, p4, h1, _, h3⟩ := tabB_end (J := J) (c := c) (r := r) (b := b) (nn := nn) (ll := ll) (le := le) (d := d) hn hk hl a 0 0 i (by omega) (.inr (by omega))
    refine ⟨e4, p4, h1, ?_⟩
    rw [List.drop_eq_nil_of_le (by omega)]
    exact h3 rfl rfl
  | m + 1, i, hi => by
    have hlt : i < tg.length := by omega
    have hdr : tg.drop i = tg[i] :: tg.drop (i + 1) := List.drop_eq_getElem_cons hlt
    have hmem : tg[i] ∈ tg := List.getElem_mem hlt
    have hget : tg.getD i 0 = tg[i] := by rw [List.getD_eq_getElem?_getD, List.getElem?_eq_getElem hlt]; rfl
    have henc := encT_getD .u32 tg i hlt
    rw [hget] at henc
    rw [hdr]
    obtain ⟨tt, htt⟩ : ∃ tt : Nat, tg[i] = (tt : Int) := ⟨tg[i].toNat, by have := (ht _ hmem).1; omega⟩
    have hb := (ht _ hmem).2
    rw [htt] at henc hb ⊢
    have hlen := hJ.len
    obtain ⟨k2, e1, p1, hk2, hcall, _, hq, hk3⟩ := jl_any hJ tt (by omega) c 0 0 c
    have hok : e1 = 0 ∧ p1 = 0 := by
      rcases hq rfl with ⟨_, h1, h2⟩ | ⟨h1, _, _⟩
      · exact ⟨h1, h2⟩
      · have := List.getElem?_eq_none_iff.1 h1
        rw [List.length_reverse] at this
        omega
    obtain ⟨rfl, rfl⟩ := hok
    have d1 : decide ((i : Int) < tg.length) = true := by simp; omega
    have w : IntKind.i64.wrap ((i : Int) + 1) = ((i + 1 : Nat) : Int) := by rw [i64In (by omega) (by omega)]; rfl
    have hi2 : inB (i : Int) tg.length = true := by unfold inB; simp; omega
    by_cases hkk : k2 = k
    · obtain ⟨e4, p4, h1, h2⟩ := tabB hJ hn hk hl ht a m (i + 1) (by omega)
      refine ⟨e4, p4, good_of_tree names (tkb_tree J c 0 0 r a b nn tg ll le n d c i tt k k2 0 0 0 0 0 0 0 0 0 0) ?_, ?_⟩
      · have d2 : ((k2 : Int) != k) = false := by simp; omega
        have d3 : ((0 : Int) == 0) = true := rfl
        simp only [tkbTree, Tree.ok, d1, d2, d3, w, hi2, henc, Int.toNat_natCast, Nat.mul_one, pvInt, isInt, ik, iku, Bool.and_true, Bool.false_eq_true, Bool.true_eq_false, false_implies, true_implies, true_and, and_true]
        exact ⟨hcall, h1⟩
      · rw [List.all_cons]
        have : (J.L.reverse.getD (tt : Int).toNat 0 == k) = true := by rw [Int.toNat_natCast, ← hk3]; simpa using hkk
        rw [this, Bool.true_and]
        exact h2
    · obtain ⟨e4, p4, h1, h2, _⟩ := tabB_end (J := J) (c := c) (r := r) (b := b) (nn := nn) (ll := ll) (le := le) (d := d) hn hk hl a 214 c (i + 1) (by omega) (.inl (by decide))
      obtain ⟨rfl, rfl⟩ := h2 (by decide)
      refine ⟨214, c, good_of_tree names (tkb_tree J c 0 0 r a b nn tg ll le n d c i tt k k2 0 0 0 0 0 0 0 0 0 0) ?_, ?_⟩
      · have d2 : ((k2 : Int) != k) = true := by simp; omega
        have d3 : ((0 : Int) == 0) = true := rfl
        simp only [tkbTree, Tree.ok, d1, d2, d3, w, hi2, henc, Int.toNat_natCast, Nat.mul_one, pvInt, isInt, ik, iku, Bool.and_true, Bool.false_eq_true, Bool.true_eq_false, false_implies, true_implies, true_and, and_true]
        exact ⟨hcall, h1⟩
      · rw [List.all_cons]
        have : (J.L.reverse.getD (tt : Int).toNat 0 == k) = false := by rw [Int.toNat_natCast, ← hk3]; simpa using hkk
        rw [this, Bool.false_and, if_neg (by decide)]
        exact ⟨_, _, rfl, rfl⟩

theorem tabA (hJ : JOk J V) (hl : tg.length ≤ 1000000000) (ht : ∀ t ∈ tg, 0 ≤ t ∧ t < 4294967296) (a : Int) (o : Out) (m : Nat) : ∀ (i : Nat) (e p : Int), i + m = tg.length →
    Am.Good Tryz.prog env (cfgA J c (if e = 0 then (if (tg.drop i).all (fun t => decide (t < J.L.reverse.length)) = true then 0 else 6) else e) (if e = 0 then (if (tg.drop i).all (fun t => decide (t < J.L.reverse.length)) = true then p else c) else p) r a b nn tg ll le n d tg.length) o →
    Am.Good Tryz.prog env (cfgA J c e p r a b nn tg ll le n d i) o := by
  induction m with
  | zero =>
    intro i e p hi h
    obtain rfl : i = tg.length := by omega
    rw [List.drop_eq_nil_of_le (Nat.le_refl _)] at h
    rw [List.all_nil] at h
    by_cases he : e = 0
    · rw [if_pos he, if_pos he, if_pos rfl, if_pos rfl] at h
      rw [he]; exact h
    · rw [if_neg he, if_neg he] at h; exact h
  | succ m ih =>
    intro i e p hi h
    have hlt : i < tg.length := by omega
    have hdr : tg.drop i = tg[i] :: tg.drop (i + 1) := List.drop_eq_getElem_cons hlt
    have hmem : tg[i] ∈ tg := List.getElem_mem hlt
    have hget : tg.getD i 0 = tg[i] := by rw [List.getD_eq_getElem?_getD, List.getElem?_eq_getElem hlt]; rfl
    have henc := encT_getD .u32 tg i hlt
    rw [hget] at henc
    rw [hdr, List.all_cons] at h
    obtain ⟨tt, htt⟩ : ∃ tt : Nat, tg[i] = (tt : Int) := ⟨tg[i].toNat, by have := (ht _ hmem).1; omega⟩
    have hb := (ht _ hmem).2
    rw [htt] at henc hb h
    obtain ⟨k2, e1, p1, hk2, hcall, hE, hq, hk3⟩ := jl_any hJ tt (by omega) c e p c
    have d1 : decide ((i : Int) < tg.length) = true := by simp; omega
    have w : IntKind.i64.wrap ((i : Int) + 1) = ((i + 1 : Nat) : Int) := by rw [i64In (by omega) (by omega)]; rfl
    have hi2 : inB (i : Int) tg.length = true := by unfold inB; simp; omega
    refine good_of_tree names (tka_tree J c e p r a b nn tg ll le n d c i tt k2 0 e1 p1 0 0 0 0 0 0 0 0) ?_
    simp only [tkaTree, Tree.ok, d1, w, hi2, henc, Int.toNat_natCast, Nat.mul_one, pvInt, isInt, ik, iku, Bool.and_true, Bool.false_eq_true, Bool.true_eq_false, false_implies, true_implies, true_and, and_true]
    refine ⟨hcall, ih (i + 1) e1 p1 (by omega) ?_⟩
    by_cases he : e = 0
    · rw [if_pos he, if_pos he] at h
      rcases hq he with ⟨h1, rfl, rfl⟩ | ⟨h1, rfl, rfl⟩
      · have hlt : tt < J.L.reverse.length := (List.getElem?_eq_some_iff.1 h1).1
        have : decide ((tt : Int) < J.L.reverse.length) = true := by simp at hlt ⊢; omega
        rw [this, Bool.true_and] at h
        exact h
      · have hge := List.getElem?_eq_none_iff.1 h1
        have : decide ((tt : Int) < J.L.reverse.length) = false := by simp at hge ⊢; omega
        rw [this, Bool.false_and, if_neg (by decide), if_neg (by decide)] at h
        rw [if_neg (by decide), if_neg (by decide)]
        exact h
    · obtain ⟨rfl, rfl⟩ := hE he
      rw [if_neg he, if_neg he] at h ⊢
      exact h

theorem jtab_run (hJ : JOk J V) (hn : n ≤ 1000000000) (hl : tg.length ≤ 1000000000) (ht : ∀ t ∈ tg, 0 ≤ t ∧ t < 4294967296) (a : Nat) (ha : a < 4294967296) : JRunF J 122 (aggI 14 r a b nn tg ll le) n d c (flatV V J.L.reverse 14 a tg n d c) := by
  have hlen : J.L.reverse.length = J.L.length := List.length_reverse
  have hJl := hJ.len
  show JRunF J 122 _ n d c (match tabV J.L.reverse tg a with
    | .inl e => .bad e c
    | .inr k => popV c 1 n d fun n1 => popV c k n1 d fun _ => .ok 0 true c)
  have d1 : decide (((tg.length : Nat) : Int) < tg.length) = false := by simp
  suffices hs : ∃ e4 p4, Am.Good Tryz.prog env (cfgA J c 0 0 r a b nn tg ll le n d 0) (.ret (hv (0 : Nat) true) (jM J c e4 p4)) ∧ JOutF J c (match tabV J.L.reverse tg a with
    | .inl e => .bad e c
    | .inr k => popV c 1 n d fun n1 => popV c k n1 d fun _ => .ok 0 true c) (hv (0 : Nat) true) (jM J c e4 p4) by
    obtain ⟨e4, p4, h1, h2⟩ := hs
    exact ⟨_, _, does_of_tree names (jjt_tree J c r a b nn tg ll le n d c 0 0 0 0 0 0 0 0 0) (by simp only [jjtTree, Tree.ok]; exact h1), h2⟩
  unfold tabV
  by_cases hall : tg.all (fun t => decide (t < J.L.reverse.length)) = true
  · rw [if_neg (by rw [hall]; decide), Int.toNat_natCast]
    have ht2 : ∀ t ∈ tg, 0 ≤ t ∧ t < J.L.length := fun t hm => ⟨(ht t hm).1, by have := List.all_eq_true.1 hall t hm; rw [hlen] at this; simpa using this⟩
    obtain ⟨k, e1, p1, hk, hcall, _, hq, hk3⟩ := jl_any hJ a ha c 0 0 c
    rcases hq rfl with ⟨h1, rfl, rfl⟩ | ⟨h1, rfl, rfl⟩
    · obtain ⟨e4, p4, hg, ho⟩ := tabB (c := c) (r := r) (b := b) (nn := nn) (ll := ll) (le := le) (d := d) hJ hn hk hl ht2 a tg.length 0 (by omega)
      refine ⟨e4, p4, tabA hJ hl ht a _ tg.length 0 0 0 (by omega) ?_, ?_⟩
      · rw [List.drop_zero, hall, if_pos rfl, if_pos rfl, if_pos rfl]
        refine good_of_tree names (tka_tree J c 0 0 r a b nn tg ll le n d c tg.length 0 k 0 0 0 0 0 0 0 0 0 0 0) ?_
        simp only [tkaTree, Tree.ok, d1, Bool.false_eq_true, false_implies, true_implies, true_and]
        exact ⟨hcall, hg⟩
      · rw [h1]
        rw [List.drop_zero] at ho
        dsimp only
        by_cases q : tg.all (fun t => J.L.reverse.getD t.toNat 0 == k) = true
        · rw [if_pos q] at ho ⊢; exact ho
        · rw [if_neg q] at ho ⊢; exact ho
    · obtain ⟨e4, p4, hg, h2, _⟩ := tabB_end (J := J) (c := c) (k := k) (r := r) (b := b) (nn := nn) (tg := tg) (ll := ll) (le := le) (d := d) hn hk hl a 6 c 0 (by omega) (.inl (by decide))
      obtain ⟨rfl, rfl⟩ := h2 (by decide)
      refine ⟨6, c, tabA hJ hl ht a _ tg.length 0 0 0 (by omega) ?_, ?_⟩
      · rw [List.drop_zero, hall, if_pos rfl, if_pos rfl, if_pos rfl]
        refine good_of_tree names (tka_tree J c 0 0 r a b nn tg ll le n d c tg.length 0 k 0 6 c 0 0 0 0 0 0 0 0) ?_
        simp only [tkaTree, Tree.ok, d1, Bool.false_eq_true, false_implies, true_implies, true_and]
        exact ⟨hcall, hg⟩
      · rw [h1]
        exact ⟨_, _, rfl, rfl⟩
  · have hall : tg.all (fun t => decide (t < J.L.reverse.length)) = false := by simpa using hall
    rw [if_pos hall]
    obtain ⟨k, e1, p1, hk, hcall, hE, _, _⟩ := jl_any hJ a ha c 6 c c
    obtain ⟨rfl, rfl⟩ := hE (by decide)
    obtain ⟨e4, p4, hg, h2, _⟩ := tabB_end (J := J) (c := c) (k := k) (r := r) (b := b) (nn := nn) (tg := tg) (ll := ll) (le := le) (d := d) hn hk hl a 6 c 0 (by omega) (.inl (by decide))
    obtain ⟨rfl, rfl⟩ := h2 (by decide)
    refine ⟨6, c, tabA hJ hl ht a _ tg.length 0 0 0 (by omega) ?_, _, _, rfl, rfl⟩
    rw [List.drop_zero, hall, if_pos rfl, if_neg (by decide), if_pos rfl, if_neg (by decide)]
    refine good_of_tree names (tka_tree J c 6 c r a b nn tg ll le n d c tg.length 0 k 0 6 c 0 0 0 0 0 0 0 0) ?_
    simp only [tkaTree, Tree.ok, d1, Bool.false_eq_true, false_implies, true_implies, true_and]
    exact ⟨hcall, hg⟩

end
end Go.Proofs.YtgbphddecpjlhaaGreatDoor.N
end

section
set_option linter.unusedSimpArgs false
set_option linter.unusedVariables false
namespace Go.Am

def LabLe (ls ls' : List Nat) : Prop := ∃ q, ls' = ls ++ q

theorem LabLe.get {ls ls' : List Nat} (h : LabLe ls ls') {i k : Nat} (hi : ls[i]? = some k) : ls'[i]? = some k := by
  obtain ⟨q, rfl⟩ := h
  obtain ⟨h1, h2⟩ := List.getElem?_eq_some_iff.1 hi
  rw [List.getElem?_append_left h1, hi]

theorem LabLe.len {ls ls' : List Nat} (h : LabLe ls ls') : ls.length ≤ ls'.length := by obtain ⟨q, rfl⟩ := h; simp
theorem LabLe.cons {ls ls' : List Nat} (h : LabLe ls ls') (k : Nat) : LabLe (k :: ls) (k :: ls') := by obtain ⟨q, rfl⟩ := h; exact ⟨q, rfl⟩

def Weak (n : Nat) (d : Bool) (n' : Nat) (d' : Bool) : Prop := (n' = n ∧ d' = d) ∨ (d' = true ∧ n' ≤ n)

theorem Weak.refl (n : Nat) (d : Bool) : Weak n d n d := .inl ⟨rfl, rfl⟩

def Mono (a b : VR) : Prop := ∀ n d c, a = .ok n d c → ∃ n' d' c', b = .ok n' d' c' ∧ Weak n d n' d'

theorem Mono.bad {e : Int} {p : Nat} {b : VR} : Mono (.bad e p) b := fun n d c h => by cases h

theorem Mono.ok {n n' c c' : Nat} {d d' : Bool} (h : Weak n d n' d') : Mono (.ok n d c) (.ok n' d' c') := fun n1 d1 c1 e => by
  cases e
  exact ⟨n', d', c', rfl, h⟩

theorem Mono.pop {p p' k n n' : Nat} {d d' : Bool} {f f' : Nat → VR} (h : Weak n d n' d') (hf : ∀ m m', Weak m d m' d' → Mono (f m) (f' m')) : Mono (popV p k n d f) (popV p' k n' d' f') := by
  unfold popV
  by_cases h1 : n < k ∧ d = false
  · rw [if_pos h1]; exact .bad
  · rw [if_neg h1]
    have h2 : ¬ (n' < k ∧ d' = false) := by
      rcases h with ⟨rfl, rfl⟩ | ⟨rfl, h⟩
      · exact h1
      · simp
    rw [if_neg h2]
    refine hf _ _ ?_
    rcases h with ⟨rfl, rfl⟩ | ⟨rfl, h⟩
    · exact .refl _ _
    · exact .inr ⟨rfl, by omega⟩

theorem Mono.endV {r n n' p p' : Nat} {d d' : Bool} {f f' : VR} (h : Weak n d n' d') (hf : Mono f f') : Mono (endV r n d p f) (endV r n' d' p' f') := by
  unfold Am.endV
  refine Mono.pop h fun m m' hm => ?_
  by_cases h1 : 0 < m
  · rw [if_pos h1]; exact .bad
  · rw [if_neg h1, if_neg (by rcases hm with ⟨rfl, _⟩ | ⟨_, q⟩ <;> omega)]
    exact hf

theorem Weak.add {n n' : Nat} {d d' : Bool} (h : Weak n d n' d') (k : Nat) : Weak (n + k) d (n' + k) d' := by
  rcases h with ⟨rfl, rfl⟩ | ⟨rfl, h⟩
  · exact .refl _ _
  · exact .inr ⟨rfl, by omega⟩

theorem tabV_mono {ls ls' : List Nat} (h : LabLe ls ls') {tags : List Int} {a : Int} {k : Nat} (ht : ∀ t ∈ tags, 0 ≤ t) (e : tabV ls tags a = .inr k) : tabV ls' tags a = .inr k := by
  unfold tabV at e ⊢
  split at e
  · cases e
  rename_i h1
  have h1 : tags.all (fun t => decide (t < ls.length)) = true := by simpa using h1
  have h2 : tags.all (fun t => decide (t < ls'.length)) = true := by
    rw [List.all_eq_true] at h1 ⊢
    intro t hm
    have := h1 t hm
    have := h.len
    simp only [decide_eq_true_eq] at *
    omega
  rw [if_neg (by rw [h2]; simp)]
  split at e
  · cases e
  rename_i k' hk
  rw [h.get hk]
  dsimp only
  split at e
  · rename_i h3
    rw [if_pos]
    · exact e
    · rw [List.all_eq_true] at h3 ⊢
      intro t hm
      have h3 := h3 t hm
      have h4 := List.all_eq_true.1 h1 t hm
      simp only [decide_eq_true_eq] at h4
      have hlt : t.toNat < ls.length := by have := ht t hm; omega
      have e1 : ls'.getD t.toNat 0 = ls.getD t.toNat 0 := by
        rw [List.getD_eq_getElem?_getD, List.getD_eq_getElem?_getD, List.getElem?_eq_getElem hlt, h.get (List.getElem?_eq_getElem hlt)]
      rw [e1]; exact h3
  · cases e

theorem flatV_mono {V : VEnv} {ls ls' : List Nat} (h : LabLe ls ls') {op a : Int} {tags : List Int} {n n' c c' : Nat} {d d' : Bool} (ht : ∀ t ∈ tags, 0 ≤ t) (hw : Weak n d n' d') : Mono (flatV V ls op a tags n d c) (flatV V ls' op a tags n' d' c') := by
  unfold flatV
  by_cases o : op = 12
  · rw [if_pos o, if_pos o]
    cases hk : ls[a.toNat]? with
    | none => exact .bad
    | some k => rw [h.get hk]; exact .pop hw fun _ _ _ => .ok (.refl _ _)
  rw [if_neg o, if_neg o]; clear o
  by_cases o : op = 13
  · rw [if_pos o, if_pos o]
    cases hk : ls[a.toNat]? with
    | none => exact .bad
    | some k => rw [h.get hk]; exact .pop hw fun _ _ q => .pop q fun _ _ q => .ok (q.add _)
  rw [if_neg o, if_neg o]; clear o
  by_cases o : op = 14
  · rw [if_pos o, if_pos o]
    cases hk : tabV ls tags a with
    | inl e => exact .bad
    | inr k => rw [tabV_mono h ht hk]; exact .pop hw fun _ _ q => .pop q fun _ _ q => .ok (.refl _ _)
  rw [if_neg o, if_neg o]; clear o
  by_cases o : op = 15
  · rw [if_pos o, if_pos o]; exact .pop hw fun _ _ _ => .ok (.refl _ _)
  rw [if_neg o, if_neg o]; clear o
  by_cases o : op = 16
  · rw [if_pos o, if_pos o]
    cases V.ty a with
    | none => exact .bad
    | some pr => exact .pop hw fun _ _ q => .ok (q.add _)
  rw [if_neg o, if_neg o]; clear o
  by_cases o : op = 17
  · rw [if_pos o, if_pos o]
    cases V.ind a with
    | none => exact .bad
    | some pr => exact .pop hw fun _ _ q => .pop q fun _ _ q => .ok (q.add _)
  rw [if_neg o, if_neg o]; clear o
  by_cases o : nameV V op a ≠ 0
  · rw [if_pos o, if_pos o]; exact .bad
  rw [if_neg o, if_neg o]
  exact .pop hw fun _ _ q => .ok (q.add _)

theorem tags_pos {op r a b nn : Int} {tags : List Int} {l e : List Ins} (h : wfI (.mk op r a b nn tags l e)) : ∀ t ∈ tags, 0 ≤ t := fun t ht => by
  have := h.2.2.2.2.2.1.2 t ht
  have h0 : IntKind.u32.min = 0 := rfl
  simp [Lit.wf] at this
  omega

mutual
theorem valI_mono {V : VEnv} : ∀ (x : Ins) {ls ls' : List Nat} (h : LabLe ls ls') (hx : wfI x) {n n' : Nat} {d d' : Bool} (c c' : Nat) (hw : Weak n d n' d'), Mono (valI V ls x n d c) (valI V ls' x n' d' c')
  | .mk op r a b nn tags l e, ls, ls', h, hx, n, n', d, d', c, c', hw => by
    have hl := hx.2.2.2.2.2.2.1.2
    have he := hx.2.2.2.2.2.2.2.2
    simp only [valI]
    by_cases o : op = 0
    · rw [if_pos o, if_pos o]; exact .ok (.refl _ _)
    rw [if_neg o, if_neg o]; clear o
    by_cases o : op = 2 ∨ op = 3
    · rw [if_pos o, if_pos o]
      have ih := valL_mono (V := V) l (h.cons (if op = 3 then 0 else r.toNat)) hl c c' (Weak.refl 0 false)
      cases hk : valL V ((if op = 3 then 0 else r.toNat) :: ls) l 0 false c with
      | bad e p => exact .bad
      | ok n1 d1 c1 =>
        obtain ⟨n2, d2, c2, e2, w2⟩ := ih _ _ _ hk
        rw [e2]
        exact .endV w2 (.ok (hw.add _))
    rw [if_neg o, if_neg o]; clear o
    by_cases o : op = 4
    · rw [if_pos o, if_pos o]
      refine .pop hw fun m m' hm => ?_
      have ih := valL_mono (V := V) l (h.cons r.toNat) hl c c' (Weak.refl 0 false)
      cases hk : valL V (r.toNat :: ls) l 0 false c with
      | bad e p => exact .bad
      | ok n1 d1 c1 =>
        obtain ⟨n2, d2, c2, e2, w2⟩ := ih _ _ _ hk
        rw [e2]
        refine .endV w2 ?_
        have ih := valL_mono (V := V) e (h.cons r.toNat) he c1 c2 (Weak.refl 0 false)
        cases hk : valL V (r.toNat :: ls) e 0 false c1 with
        | bad e p => exact .bad
        | ok n3 d3 c3 =>
          obtain ⟨n4, d4, c4, e4, w4⟩ := ih _ _ _ hk
          rw [e4]
          exact .endV w4 (.ok (hm.add _))
    rw [if_neg o, if_neg o]
    exact flatV_mono h (tags_pos hx) hw
theorem valL_mono {V : VEnv} : ∀ (l : List Ins) {ls ls' : List Nat} (h : LabLe ls ls') (hx : wfL l) {n n' : Nat} {d d' : Bool} (c c' : Nat) (hw : Weak n d n' d'), Mono (valL V ls l n d c) (valL V ls' l n' d' c')
  | [], ls, ls', h, hx, n, n', d, d', c, c', hw => by
    simp only [valL]
    exact .ok hw
  | x :: r, ls, ls', h, hx, n, n', d, d', c, c', hw => by
    simp only [valL]
    have ih := valI_mono (V := V) x h hx.1 (c + 1) (c' + 1) hw
    cases hk : valI V ls x n d (c + 1) with
    | bad e p => exact .bad
    | ok n1 d1 c1 =>
      obtain ⟨n2, d2, c2, e2, w2⟩ := ih _ _ _ hk
      rw [e2]
      exact valL_mono r h hx.2 c1 c2 w2
end

theorem okR {e : Int} (he : e ≠ 0) : e ≠ 0 := he

theorem tabV_ne {ls : List Nat} {tags : List Int} {a e : Int} (h : tabV ls tags a = .inl e) : e ≠ 0 := by
  unfold tabV at h
  split at h
  · cases h; decide
  split at h
  · cases h; decide
  split at h
  · cases h
  · cases h; decide

def NB (a : VR) : Prop := ∀ e p, a = .bad e p → e ≠ 0
theorem NB.ok {n c : Nat} {d : Bool} : NB (.ok n d c) := fun _ _ h => by cases h
theorem NB.bad {e : Int} {p : Nat} (h : e ≠ 0) : NB (.bad e p) := fun _ _ q => by cases q; exact h
theorem NB.pop {p k n : Nat} {d : Bool} {f : Nat → VR} (h : ∀ m, NB (f m)) : NB (popV p k n d f) := by
  unfold popV
  split
  · exact .bad (by decide)
  · exact h _
theorem NB.endV {r n p : Nat} {d : Bool} {f : VR} (h : NB f) : NB (endV r n d p f) := by
  unfold Am.endV
  refine .pop fun m => ?_
  split
  · exact .bad (by decide)
  · exact h
theorem NB.flat {V : VEnv} {ls : List Nat} {op a : Int} {tags : List Int} {n c : Nat} {d : Bool} : NB (flatV V ls op a tags n d c) := by
  unfold flatV
  split
  · split
    · exact .bad (by decide)
    · exact .pop fun _ => .ok
  split
  · split
    · exact .bad (by decide)
    · exact .pop fun _ => .pop fun _ => .ok
  split
  · split
    · rename_i e he; exact .bad (tabV_ne he)
    · exact .pop fun _ => .pop fun _ => .ok
  split
  · exact .pop fun _ => .ok
  split
  · split
    · exact .bad (by decide)
    · exact .pop fun _ => .ok
  split
  · split
    · exact .bad (by decide)
    · exact .pop fun _ => .pop fun _ => .ok
  split
  · rename_i h; exact .bad h
  · exact .pop fun _ => .ok

mutual
theorem NB.ins {V : VEnv} : ∀ (x : Ins) (ls : List Nat) (n : Nat) (d : Bool) (c : Nat), NB (valI V ls x n d c)
  | .mk op r a b nn tags l e, ls, n, d, c => by
    simp only [valI]
    by_cases o : op = 0
    · rw [if_pos o]; exact .ok
    rw [if_neg o]; clear o
    by_cases o : op = 2 ∨ op = 3
    · rw [if_pos o]
      have ih := NB.list (V := V) l ((if op = 3 then 0 else r.toNat) :: ls) 0 false c
      cases hk : valL V ((if op = 3 then 0 else r.toNat) :: ls) l 0 false c with
      | bad e p => rw [hk] at ih; exact ih
      | ok n1 d1 c1 => exact .endV .ok
    rw [if_neg o]; clear o
    by_cases o : op = 4
    · rw [if_pos o]
      refine .pop fun m => ?_
      have ih := NB.list (V := V) l (r.toNat :: ls) 0 false c
      cases hk : valL V (r.toNat :: ls) l 0 false c with
      | bad e p => rw [hk] at ih; exact ih
      | ok n1 d1 c1 =>
        refine .endV ?_
        have ih := NB.list (V := V) e (r.toNat :: ls) 0 false c1
        cases hk : valL V (r.toNat :: ls) e 0 false c1 with
        | bad e p => rw [hk] at ih; exact ih
        | ok n3 d3 c3 => exact .endV .ok
    rw [if_neg o]
    exact .flat
theorem NB.list {V : VEnv} : ∀ (l : List Ins) (ls : List Nat) (n : Nat) (d : Bool) (c : Nat), NB (valL V ls l n d c)
  | [], ls, n, d, c => by simp only [valL]; exact .ok
  | x :: r, ls, n, d, c => by
    simp only [valL]
    have ih := NB.ins (V := V) x ls n d (c + 1)
    cases hk : valI V ls x n d (c + 1) with
    | bad e p => rw [hk] at ih; exact ih
    | ok n1 d1 c1 => exact NB.list r ls n1 d1 c1
end

end Go.Am
end

section
set_option linter.unusedSimpArgs false
set_option linter.unusedVariables false
namespace Go.Proofs.YtgbphddecpjlhaaGreatDoor.N
open Go Go.Am

theorem pop_inv {p k n n1 c1 : Nat} {d d1 : Bool} {f : Nat → VR} (h : popV p k n d f = .ok n1 d1 c1) : f (n - k) = .ok n1 d1 c1 := by
  unfold popV at h
  split at h
  · cases h
  · exact h
theorem end_inv {r p n n1 c1 : Nat} {d d1 : Bool} {f : VR} (h : endV r n d p f = .ok n1 d1 c1) : f = .ok n1 d1 c1 := by
  unfold endV at h
  have h := pop_inv h
  split at h
  · cases h
  · exact h

structure VLe (V : VEnv) : Prop where
  ret : V.ret ≤ 1
  ty : ∀ a p r, V.ty a = some (p, r) → r ≤ 1
  ind : ∀ a p r, V.ind a = some (p, r) → r ≤ 1

theorem flat_le {V : VEnv} (hV : VLe V) {ls : List Nat} (hls : ∀ k ∈ ls, k ≤ 1) {op a : Int} {tags : List Int} {n c n1 c1 : Nat} {d d1 : Bool} (h : flatV V ls op a tags n d c = .ok n1 d1 c1) : n1 ≤ n + 1 ∧ c1 = c := by
  have ht := tellsF_le op
  unfold flatV at h
  split at h
  · split at h
    · cases h
    · have h := pop_inv h; cases h; exact ⟨by omega, rfl⟩
  split at h
  · split at h
    · cases h
    · rename_i k hk
      have hk := hls k (List.mem_of_getElem? hk)
      have h := pop_inv (pop_inv h); cases h; exact ⟨by omega, rfl⟩
  split at h
  · split at h
    · cases h
    · have h := pop_inv (pop_inv h); cases h; exact ⟨by omega, rfl⟩
  split at h
  · have h := pop_inv h; cases h; exact ⟨by omega, rfl⟩
  split at h
  · split at h
    · cases h
    · rename_i p r hr
      have := hV.ty _ _ _ hr
      have h := pop_inv h; cases h; exact ⟨by omega, rfl⟩
  split at h
  · split at h
    · cases h
    · rename_i p r hr
      have := hV.ind _ _ _ hr
      have h := pop_inv (pop_inv h); cases h; exact ⟨by omega, rfl⟩
  split at h
  · cases h
  · have h := pop_inv h; cases h; exact ⟨by omega, rfl⟩

mutual
theorem valI_le {V : VEnv} (hV : VLe V) : ∀ (x : Ins) (ls : List Nat) (hls : ∀ k ∈ ls, k ≤ 1) (hr : okI resI x = true) (n : Nat) (d : Bool) (c n1 : Nat) (d1 : Bool) (c1 : Nat), valI V ls x n d c = .ok n1 d1 c1 → n1 ≤ n + 1 ∧ c ≤ c1 ∧ c1 + 1 ≤ c + numI x
  | .mk op r a b nn tags l e, ls, hls, hr, n, d, c, n1, d1, c1, h => by
    simp only [okI, Bool.and_eq_true] at hr
    obtain ⟨hr1, hrl, hre⟩ := hr
    have hr1 : 0 ≤ r ∧ r ≤ 1 := of_decide_eq_true hr1
    have hN : numI (.mk op r a b nn tags l e) = 1 + numL l + numL e := by simp only [numI]
    rw [hN]
    simp only [valI] at h
    by_cases o : op = 0
    · rw [if_pos o] at h; cases h; omega
    rw [if_neg o] at h; clear o
    by_cases o : op = 2 ∨ op = 3
    · rw [if_pos o] at h
      cases hk : valL V ((if op = 3 then 0 else r.toNat) :: ls) l 0 false c with
      | bad e p => rw [hk] at h; cases h
      | ok n2 d2 c2 =>
        rw [hk] at h
        have h := end_inv h
        cases h
        have := valL_le hV l ((if op = 3 then 0 else r.toNat) :: ls) (by
          intro k hk
          rcases List.mem_cons.1 hk with rfl | hk
          · split <;> omega
          · exact hls k hk) hrl _ _ _ _ _ _ hk
        omega
    rw [if_neg o] at h; clear o
    by_cases o : op = 4
    · rw [if_pos o] at h
      have h := pop_inv h
      have hls2 : ∀ k ∈ r.toNat :: ls, k ≤ 1 := by
        intro k hk
        rcases List.mem_cons.1 hk with rfl | hk
        · omega
        · exact hls k hk
      cases hk : valL V (r.toNat :: ls) l 0 false c with
      | bad e p => rw [hk] at h; cases h
      | ok n2 d2 c2 =>
        rw [hk] at h
        have h := end_inv h
        have := valL_le hV l _ hls2 hrl _ _ _ _ _ _ hk
        cases hk2 : valL V (r.toNat :: ls) e 0 false c2 with
        | bad e p => rw [hk2] at h; cases h
        | ok n3 d3 c3 =>
          rw [hk2] at h
          have h := end_inv h
          cases h
          have := valL_le hV e _ hls2 hre _ _ _ _ _ _ hk2
          omega
    rw [if_neg o] at h
    obtain ⟨h1, rfl⟩ := flat_le hV hls h
    omega
theorem valL_le {V : VEnv} (hV : VLe V) : ∀ (l : List Ins) (ls : List Nat) (hls : ∀ k ∈ ls, k ≤ 1) (hr : okL resI l = true) (n : Nat) (d : Bool) (c n1 : Nat) (d1 : Bool) (c1 : Nat), valL V ls l n d c = .ok n1 d1 c1 → (n ≤ c → n1 ≤ c1) ∧ c ≤ c1 ∧ c1 ≤ c + numL l
  | [], ls, hls, hr, n, d, c, n1, d1, c1, h => by
    simp only [valL] at h
    cases h
    omega
  | x :: r, ls, hls, hr, n, d, c, n1, d1, c1, h => by
    simp only [okL, Bool.and_eq_true] at hr
    simp only [valL] at h
    simp only [numL]
    cases hk : valI V ls x n d (c + 1) with
    | bad e p => rw [hk] at h; cases h
    | ok n2 d2 c2 =>
      rw [hk] at h
      have h1 := valI_le hV x ls hls hr.1 _ _ _ _ _ _ hk
      have h2 := valL_le hV r ls hls hr.2 _ _ _ _ _ _ h
      omega
end

def JList (J : Jd) (r : VR) (m : Mem) : Prop := match r with
  | .ok _ _ c => m = jM J c 0 0
  | .bad e p => ∃ c : Int, m = jM J c e p

abbrev lab1 (J : Jd) (lab : Nat) : Jd := { J with L := J.L ++ [lab] }

abbrev endL (rs x : Nat) (r : VR) : VR := match r with
  | .bad e p => .bad e p
  | .ok n d c => endV rs n d x (.ok 0 false c)

noncomputable abbrev cfgL (J : Jd) (W : List Nat) (l : List Ins) (i : Nat) (rs x : Nat) (n : Int) (d : Bool) (c e p : Int) : Cfg :=
  bodyCfg Tryz.prog env 39 0 [.mp 0 0, aL l, sI .i64 rs, sI .i64 x, wos W, .mp 2 0, sI .i64 i] [jB3 J 3 c e p, .tok, .pc [.sc (.int .i64 n), .sc (.bool d)], .tok] 2 78

section
variable {J : Jd} {V : VEnv}

theorem jlist_bad (W : List Nat) (l : List Ins) (i rs x : Nat) (n : Int) (d : Bool) (c : Int) {e : Int} (p : Int) (he : e ≠ 0) :
    Am.Good Tryz.prog env (cfgL J W l i rs x n d c e p) (.ret (.tup []) (jM { J with L := W } c e p)) := by
  have d2 : (e == 0) = false := by simpa using he
  refine good_of_tree names (jlo_tree J W l i rs x n d c e p 0 false 0 0 0 0 0 0 0 0 0 0 0 [] [] []) ?_
  simp only [jloTree, Tree.ok, d2, Bool.false_eq_true, false_implies, true_implies, true_and, Bool.not_false]
  exact ⟨fun _ => rfl, fun _ => rfl⟩

theorem jlist_end (W : List Nat) (l : List Ins) (rs x n : Nat) (d : Bool) (c : Nat) (hn : n ≤ 1000000000) (hr : rs ≤ 1) :
    ∃ m, Am.Good Tryz.prog env (cfgL J W l l.length rs x n d c 0 0) (.ret (.tup []) m) ∧ JList { J with L := W } (endV rs n d x (.ok 0 false c)) m := by
  obtain ⟨e2, p2, hd, hC, hD⟩ := jp_any (J := J) (n := n) (k := rs) d hn (by omega) c 0 0 x
  have d1 : decide (((l.length : Nat) : Int) < l.length) = false := by simp
  have d0 : ((0 : Int) == 0) = true := rfl
  unfold endV popV
  rcases hD rfl with ⟨h1, rfl, rfl⟩ | ⟨h1, rfl, rfl⟩
  · rw [if_neg h1]
    dsimp only
    by_cases hz : 0 < n - rs
    · rw [if_pos hz]
      have d3 : decide (((n - rs : Nat) : Int) > 0) = true := by simp; omega
      refine ⟨jM { J with L := W } c 201 x, good_of_tree names (jlo_tree J W l l.length rs x n d c 0 0 0 false 0 0 0 (n - rs : Nat) 0 0 0 0 0 0 0 [] [] []) ?_, c, rfl⟩
      simp only [jloTree, Tree.ok, d0, d1, d3, Bool.false_eq_true, Bool.true_eq_false, false_implies, true_implies, true_and, and_true]
      exact ⟨hd, rfl⟩
    · rw [if_neg hz]
      have d3 : decide (((n - rs : Nat) : Int) > 0) = false := by simp; omega
      refine ⟨jM { J with L := W } c 0 0, good_of_tree names (jlo_tree J W l l.length rs x n d c 0 0 0 false 0 0 0 (n - rs : Nat) 0 0 0 0 0 0 0 [] [] []) ?_, rfl⟩
      simp only [jloTree, Tree.ok, d0, d1, d3, Bool.false_eq_true, Bool.true_eq_false, false_implies, true_implies, true_and, and_true]
      exact ⟨hd, rfl⟩
  · rw [if_pos h1]
    refine ⟨jM { J with L := W } c 200 x, good_of_tree names (jlo_tree J W l l.length rs x n d c 0 0 0 false 0 0 0 (n - rs : Nat) 200 x 0 0 0 0 0 [] [] []) ?_, c, rfl⟩
    have d3 : decide (((n - rs : Nat) : Int) > 0) = false := by simp; omega
    have d4 : ((200 : Int) == 0) = false := rfl
    simp only [jloTree, Tree.ok, d0, d1, d3, d4, Bool.false_eq_true, Bool.true_eq_false, false_implies, true_implies, true_and, and_true]
    exact ⟨hd, rfl⟩

end
end Go.Proofs.YtgbphddecpjlhaaGreatDoor.N
end

section
set_option linter.unusedSimpArgs false
set_option linter.unusedVariables false
namespace Go.Proofs.YtgbphddecpjlhaaGreatDoor.N
open Go Go.Am

theorem endV_cases (r n p0 : Nat) (d : Bool) : (∃ e p, e ≠ 0 ∧ ∀ f, endV r n d p0 f = .bad e p) ∨ ∀ f, endV r n d p0 f = f := by
  unfold endV popV
  by_cases h1 : n < r ∧ d = false
  · exact .inl ⟨200, p0, by decide, fun f => by rw [if_pos h1]⟩
  · by_cases h2 : 0 < n - r
    · exact .inl ⟨201, p0, by decide, fun f => by rw [if_neg h1]; dsimp only; rw [if_pos h2]⟩
    · exact .inr fun f => by rw [if_neg h1]; dsimp only; rw [if_neg h2]

section
variable {V : VEnv}

def JI (J : Jd) (V : VEnv) (x : Ins) : Prop := ∀ (n : Nat) (d : Bool) (c : Nat), n ≤ c → c + numI x ≤ 1000000001 → JRun J 92 (aggX x) n d c (valI V J.L.reverse x n d c)
def JL (J : Jd) (V : VEnv) (l : List Ins) : Prop := ∀ lab rs x c : Nat, lab ≤ 1 → rs ≤ 1 → c + numL l ≤ 1000000000 →
  ∃ m, Does Tryz.prog env 39 [.mp 0 0, aL l, sI .i64 lab, sI .i64 rs, sI .i64 x] (jM J c 0 0) (.tup []) m ∧ JList J (endL rs x (valL V (lab :: J.L.reverse) l 0 false c)) m

theorem jlist_loop {J : Jd} (hV : VLe V) (hls : ∀ k ∈ J.L.reverse, k ≤ 1) (W : List Nat) (l : List Ins) (hres : okL resI l = true) (hlen : numL l ≤ 1000000000) (IH : ∀ x ∈ l, JI J V x) (rs x : Nat) (hr : rs ≤ 1) (m : Nat) :
    ∀ (i n : Nat) (d : Bool) (c : Nat), i + m = l.length → n ≤ c → c + numL (l.drop i) ≤ 1000000000 →
    ∃ mm, Am.Good Tryz.prog env (cfgL J W l i rs x n d c 0 0) (.ret (.tup []) mm) ∧ JList { J with L := W } (endL rs x (valL V J.L.reverse (l.drop i) n d c)) mm := by
  induction m with
  | zero =>
    intro i n d c hi hn hc
    obtain rfl : i = l.length := by omega
    rw [List.drop_eq_nil_of_le (Nat.le_refl _)] at hc ⊢
    simp only [valL]
    exact jlist_end W l rs x n d c (by omega) hr
  | succ m ih =>
    intro i n d c hi hn hc
    have hlt : i < l.length := by omega
    have hll := numL_length l
    have hdr : l.drop i = l[i] :: l.drop (i + 1) := List.drop_eq_getElem_cons hlt
    have hgx : l[i]? = some l[i] := List.getElem?_eq_getElem hlt
    have hmem : l[i] ∈ l := List.getElem_mem hlt
    have hI := IH _ hmem
    have hok := okL_mem hres _ hmem
    rw [hdr] at hc ⊢
    simp only [numL] at hc
    generalize l[i] = y at *
    have hrun := hI n d (c + 1) (by omega) (by omega)
    obtain ⟨v, mm, hd, ho⟩ := hrun
    obtain ⟨op, r, a, b, nn, tg, ll, le⟩ := y
    have hc0 := encL_getD hgx
    have k0 : (encL l).getD (i * 8) .bad = .sc (.int .i64 op) := hc0 0 (by omega)
    have k1 : (encL l).getD (i * 8 + 1) .bad = .sc (.int .i64 r) := hc0 1 (by omega)
    have k2 : (encL l).getD (i * 8 + 1 + 1) .bad = .sc (.int .u32 a) := hc0 2 (by omega)
    have k3 : (encL l).getD (i * 8 + 1 + 1 + 1) .bad = .sc (.int .u32 b) := hc0 3 (by omega)
    have k4 : (encL l).getD (i * 8 + 1 + 1 + 1 + 1) .bad = .sc (.int .i32 nn) := hc0 4 (by omega)
    have k5 : (encL l).getD (i * 8 + 1 + 1 + 1 + 1 + 1) .bad = .ps tg.length 1 (encT .u32 tg) := hc0 5 (by omega)
    have k6 : (encL l).getD (i * 8 + 1 + 1 + 1 + 1 + 1 + 1) .bad = .ps ll.length 8 (encL ll) := hc0 6 (by omega)
    have k7 : (encL l).getD (i * 8 + 1 + 1 + 1 + 1 + 1 + 1 + 1) .bad = .ps le.length 8 (encL le) := hc0 7 (by omega)
    have d0 : ((0 : Int) == 0) = true := rfl
    have d1 : decide ((i : Int) < l.length) = true := by simp; omega
    have w : IntKind.i64.wrap ((i : Int) + 1) = ((i + 1 : Nat) : Int) := by rw [i64In (by omega) (by omega)]; rfl
    have w2 : IntKind.i64.wrap ((c : Int) + 1) = ((c + 1 : Nat) : Int) := by rw [i64In (by omega) (by omega)]; rfl
    have hi2 : inB (i : Int) l.length = true := by unfold inB; simp; omega
    have hvl : valL V J.L.reverse (.mk op r a b nn tg ll le :: l.drop (i + 1)) n d c = (match valI V J.L.reverse (.mk op r a b nn tg ll le) n d (c + 1) with
      | .bad e p => .bad e p
      | .ok n1 d1 c1 => valL V J.L.reverse (l.drop (i + 1)) n1 d1 c1) := by
      simp only [valL]
      cases valI V J.L.reverse (.mk op r a b nn tg ll le) n d (c + 1) <;> rfl
    rw [hvl]
    have key : ∀ (n1 : Int) (d1' : Bool) (c1 e1 p1 : Int) (o : Out), v = hv n1 d1' → mm = jM J c1 e1 p1 → Am.Good Tryz.prog env (cfgL J W l (i + 1) rs x n1 d1' c1 e1 p1) o → Am.Good Tryz.prog env (cfgL J W l i rs x n d c 0 0) o := by
      intro n1 d1' c1 e1 p1 o hv hm hg
      subst hv
      subst hm
      refine good_of_tree names (jlo_tree J W l i rs x n d c 0 0 n1 d1' c1 e1 p1 0 0 0 op r a b nn tg ll le) ?_
      simp only [jloTree, Tree.ok, d0, d1, w, w2, hi2, k0, k1, k2, k3, k4, k5, k6, k7, Int.toNat_natCast, pvInt, psLen, psSz, psCells, isInt, isPs, ik, iku, iki, Bool.and_true, Bool.and_self, Bool.false_eq_true, Bool.true_eq_false, false_implies, true_implies, true_and, and_true]
      exact ⟨hd, hg⟩
    cases hvi : valI V J.L.reverse (.mk op r a b nn tg ll le) n d (c + 1) with
    | bad e p =>
      rw [hvi] at ho
      obtain ⟨n1, d1', c1, rfl, rfl⟩ := ho
      have hne : e ≠ 0 := NB.ins _ _ _ _ _ _ _ hvi
      exact ⟨_, key n1 d1' c1 e p _ rfl rfl (jlist_bad W l (i + 1) rs x n1 d1' c1 p hne), c1, rfl⟩
    | ok n1 d1' c1 =>
      rw [hvi] at ho
      obtain ⟨rfl, rfl⟩ := ho
      have hle := valI_le hV _ _ hls hok _ _ _ _ _ _ hvi
      obtain ⟨mm2, hg, hq⟩ := ih (i + 1) n1 d1' c1 (by omega) (by omega) (by omega)
      exact ⟨mm2, key n1 d1' c1 0 0 _ rfl rfl hg, hq⟩

theorem jlist_of {J : Jd} (hV : VLe V) (l : List Ins) (hres : okL resI l = true) (hlen : numL l ≤ 1000000000) (hL : ∀ k ∈ J.L, k ≤ 1) (hLn : J.L.length ≤ 1000) (IH : ∀ lab ≤ 1, ∀ x ∈ l, JI (lab1 J lab) V x) : JL J V l := by
  intro lab rs x c hlab hr hc
  have hls : ∀ k ∈ (lab1 J lab).L.reverse, k ≤ 1 := by
    intro k hk
    have hk : k ∈ J.L ++ [lab] := List.mem_reverse.1 hk
    rcases List.mem_append.1 hk with hk | hk
    · exact hL k hk
    · simp only [List.mem_singleton] at hk; omega
  obtain ⟨mm, hg, hq⟩ := jlist_loop (J := lab1 J lab) hV hls J.L l hres hlen (IH lab hlab) rs x hr l.length 0 0 false c (by omega) (by omega) (by simpa using hc)
  have hrev : (lab1 J lab).L.reverse = lab :: J.L.reverse := by show (J.L ++ [lab]).reverse = _; simp
  rw [List.drop_zero, hrev] at hq
  refine ⟨mm, does_of_tree names (jls_tree J c l lab rs x) ?_, hq⟩
  have hL1 : (lab1 J lab).L.length = 0 + J.L.length + 1 := by show (J.L ++ [lab]).length = _; simp
  have hL2 : jlC (lab1 J lab).L = [] ++ jlC J.L ++ [.sc (.int .i64 lab)] := by show List.map _ (J.L ++ [lab]) = _; simp
  have hcfg : cfgL (lab1 J lab) J.L l 0 rs x (0 : Nat) false c 0 0 = bodyCfg Tryz.prog env 39 0 [.mp 0 0, aL l, sI .i64 rs, sI .i64 x, wos J.L, .mp 2 0, sI .i64 (0 : Nat)]
      [.ac (J.M.cells ++ [sI .i64 J.tP, sI .i64 J.tR, sI .i64 J.own, .os (some 3) (0 + J.L.length + 1) 1 ([] ++ jlC J.L ++ [.sc (.int .i64 lab)]), sI .i64 c, sI .i64 0, sI .i64 0]), .tok, .pc [.sc (.int .i64 (0 : Nat)), .sc (.bool false)], .tok] 2 78 := by
    rw [← hL2, ← hL1]
  rw [hcfg] at hg
  have hlim : (1000000000 : Nat) ≤ lim := Nat.le_of_ble_eq_true (by kernel_rfl)
  simp only [jlsTree, Tree.ok]
  refine ⟨?_, ?_, hg⟩ <;>
  · simp only [Bool.and_true, Bool.and_eq_true, Nat.ble_eq]
    omega

variable {J : Jd} {r a b nn : Int} {tg : List Int} {ll le : List Ins} {op : Int}

theorem jone_open (ho : op = 2 ∨ op = 3) (hr : 0 ≤ r ∧ r ≤ 1) (h1 : JL J V ll) {n c : Nat} {d : Bool} (hn : n ≤ c) (hc : c + numL ll ≤ 1000000000) :
    JRun J 92 (aggI op r a b nn tg ll le) n d c (match valL V ((if op = 3 then 0 else r.toNat) :: J.L.reverse) ll 0 false c with
      | .bad e p => .bad e p
      | .ok n1 d1 c1 => endV r.toNat n1 d1 c (.ok (n + r.toNat) d c1)) := by
  obtain ⟨rs, rfl⟩ : ∃ rs : Nat, r = (rs : Int) := ⟨r.toNat, by omega⟩
  have hrs : rs ≤ 1 := by omega
  simp only [Int.toNat_natCast]
  obtain ⟨lab, hlab, hlab1⟩ : ∃ lab : Nat, (if op = 3 then 0 else rs) = lab ∧ lab ≤ 1 := ⟨_, rfl, by split <;> omega⟩
  rw [hlab]
  obtain ⟨m, hd, hq⟩ := h1 lab rs c c hlab1 hrs hc
  have w : IntKind.i64.wrap ((n : Int) + rs) = ((n + rs : Nat) : Int) := by rw [i64In (by omega) (by omega)]; rfl
  have key : ∀ c1 e1 p1 : Int, m = jM J c1 e1 p1 → Does Tryz.prog env 92 [.mp 0 0, aggI op rs a b nn tg ll le, hv n d, sI .i64 c] (jM J c 0 0) (hv (n + rs : Nat) d) (jM J c1 e1 p1) := by
    intro c1 e1 p1 hm
    subst hm
    refine does_of_tree names (jon_tree J c op rs a b nn tg ll le n d c 0 false c1 e1 p1 0 0 0 0 0 0 0 false) ?_
    rcases ho with rfl | rfl
    · rw [if_neg (by decide)] at hlab
      subst hlab
      simp only [jonTree, Tree.ok, w, Int.reduceBEq, Bool.false_eq_true, Bool.true_eq_false, false_implies, true_implies, true_and, and_true]
      exact ⟨hd, rfl⟩
    · rw [if_pos rfl] at hlab
      subst hlab
      simp only [jonTree, Tree.ok, w, Int.reduceBEq, Bool.false_eq_true, Bool.true_eq_false, false_implies, true_implies, true_and, and_true]
      exact ⟨hd, rfl⟩
  cases hvl : valL V (lab :: J.L.reverse) ll 0 false c with
  | bad e p =>
    rw [hvl] at hq
    obtain ⟨c1, rfl⟩ := hq
    exact ⟨_, _, key c1 e p rfl, _, _, c1, rfl, rfl⟩
  | ok n1 d1 c1 =>
    rw [hvl] at hq
    have hq : JList J (endV rs n1 d1 c (.ok 0 false c1)) m := hq
    show ∃ v m, _ ∧ JOut J (endV rs n1 d1 c (.ok (n + rs) d c1)) v m
    rcases endV_cases rs n1 c d1 with ⟨e, p, _, hb⟩ | hk
    · rw [hb] at hq ⊢
      obtain ⟨c2, rfl⟩ := hq
      exact ⟨_, _, key c2 e p rfl, _, _, c2, rfl, rfl⟩
    · rw [hk] at hq ⊢
      have hq : m = jM J c1 0 0 := hq
      exact ⟨_, _, key c1 0 0 hq, rfl, rfl⟩

theorem jone_if (hr : 0 ≤ r ∧ r ≤ 1) (h1 : JL J V ll) (h2 : JL J V le) (hV : VLe V) (hL : ∀ k ∈ J.L, k ≤ 1) (hres : okL resI ll = true) {n c : Nat} {d : Bool} (hn : n ≤ c) (hc : c + numL ll + numL le ≤ 1000000000) :
    JRun J 92 (aggI 4 r a b nn tg ll le) n d c (popV c 1 n d fun n0 => (match valL V (r.toNat :: J.L.reverse) ll 0 false c with
        | .bad e p => .bad e p
        | .ok n1 d1 c1 => endV r.toNat n1 d1 c (match valL V (r.toNat :: J.L.reverse) le 0 false c1 with
          | .bad e p => .bad e p
          | .ok n2 d2 c2 => endV r.toNat n2 d2 c (.ok (n0 + r.toNat) d c2)))) := by
  obtain ⟨rs, rfl⟩ : ∃ rs : Nat, r = (rs : Int) := ⟨r.toNat, by omega⟩
  have hrs : rs ≤ 1 := by omega
  simp only [Int.toNat_natCast]
  obtain ⟨e3, p3, hd3, _, hD⟩ := jp_any (J := J) (n := n) (k := 1) d (by omega) (by omega) c 0 0 c
  have w : IntKind.i64.wrap (((n - 1 : Nat) : Int) + rs) = ((n - 1 + rs : Nat) : Int) := by rw [i64In (by omega) (by omega)]; rfl
  obtain ⟨m, hd, hq⟩ := h1 rs rs c c hrs hrs (by omega)
  have hls : ∀ k ∈ rs :: J.L.reverse, k ≤ 1 := by
    intro k hk
    rcases List.mem_cons.1 hk with rfl | hk
    · omega
    · exact hL k (List.mem_reverse.1 hk)
  have d0 : ((0 : Int) == 0) = true := rfl
  unfold popV
  rcases hD rfl with ⟨hp, rfl, rfl⟩ | ⟨hp, rfl, rfl⟩
  · rw [if_neg hp]
    dsimp only
    have stop : ∀ c1 e1 p1 : Int, e1 ≠ 0 → m = jM J c1 e1 p1 → Does Tryz.prog env 92 [.mp 0 0, aggI 4 rs a b nn tg ll le, hv n d, sI .i64 c] (jM J c 0 0) (hv (n - 1 + rs : Nat) d) (jM J c1 e1 p1) := by
      intro c1 e1 p1 he hm
      subst hm
      have d2 : (e1 == 0) = false := by simpa using he
      refine does_of_tree names (jon_tree J c 4 rs a b nn tg ll le n d c (n - 1 : Nat) d c1 e1 p1 0 0 0 0 0 0 0 false) ?_
      simp only [jonTree, Tree.ok, w, d0, d2, Int.reduceBEq, Bool.false_eq_true, Bool.true_eq_false, false_implies, true_implies, true_and, and_true]
      exact ⟨hd3, hd, rfl⟩
    cases hvl : valL V (rs :: J.L.reverse) ll 0 false c with
    | bad e p =>
      rw [hvl] at hq
      obtain ⟨c1, rfl⟩ := hq
      exact ⟨_, _, stop c1 e p (NB.list _ _ _ _ _ _ _ hvl) rfl, _, _, c1, rfl, rfl⟩
    | ok n1 d1 c1 =>
      rw [hvl] at hq
      have hle := valL_le hV ll _ hls hres _ _ _ _ _ _ hvl
      have hq : JList J (endV rs n1 d1 c (.ok 0 false c1)) m := hq
      dsimp only
      rcases endV_cases rs n1 c d1 with ⟨e, p, he, hb⟩ | hk
      · rw [hb] at hq
        rw [hb]
        obtain ⟨c2, rfl⟩ := hq
        exact ⟨_, _, stop c2 e p he rfl, _, _, c2, rfl, rfl⟩
      · rw [hk] at hq
        rw [hk]
        have hq : m = jM J c1 0 0 := hq
        subst hq
        obtain ⟨m2, hd2, hq2⟩ := h2 rs rs c c1 hrs hrs (by omega)
        have go : ∀ c2 e2 p2 : Int, m2 = jM J c2 e2 p2 → Does Tryz.prog env 92 [.mp 0 0, aggI 4 rs a b nn tg ll le, hv n d, sI .i64 c] (jM J c 0 0) (hv (n - 1 + rs : Nat) d) (jM J c2 e2 p2) := by
          intro c2 e2 p2 hm
          subst hm
          refine does_of_tree names (jon_tree J c 4 rs a b nn tg ll le n d c (n - 1 : Nat) d c1 0 0 c2 e2 p2 0 0 0 0 false) ?_
          simp only [jonTree, Tree.ok, w, d0, Int.reduceBEq, Bool.false_eq_true, Bool.true_eq_false, false_implies, true_implies, true_and, and_true]
          exact ⟨hd3, hd, hd2, rfl⟩
        cases hv2 : valL V (rs :: J.L.reverse) le 0 false c1 with
        | bad e p =>
          rw [hv2] at hq2
          obtain ⟨c2, rfl⟩ := hq2
          exact ⟨_, _, go c2 e p rfl, _, _, c2, rfl, rfl⟩
        | ok n3 d3 c3 =>
          rw [hv2] at hq2
          have hq2 : JList J (endV rs n3 d3 c (.ok 0 false c3)) m2 := hq2
          show ∃ v m, _ ∧ JOut J (endV rs n3 d3 c (.ok (n - 1 + rs) d c3)) v m
          rcases endV_cases rs n3 c d3 with ⟨e, p, _, hb⟩ | hk2
          · rw [hb] at hq2 ⊢
            obtain ⟨c2, rfl⟩ := hq2
            exact ⟨_, _, go c2 e p rfl, _, _, c2, rfl, rfl⟩
          · rw [hk2] at hq2 ⊢
            have hq2 : m2 = jM J c3 0 0 := hq2
            exact ⟨_, _, go c3 0 0 hq2, rfl, rfl⟩
  · rw [if_pos hp]
    refine ⟨hv (n - 1 + rs : Nat) d, jM J c 200 c, does_of_tree names (jon_tree J c 4 rs a b nn tg ll le n d c (n - 1 : Nat) d 0 0 0 0 0 0 200 c 0 0 false) ?_, _, _, _, rfl, rfl⟩
    have d3 : ((200 : Int) == 0) = false := rfl
    simp only [jonTree, Tree.ok, w, d3, Int.reduceBEq, Bool.false_eq_true, Bool.true_eq_false, false_implies, true_implies, true_and, and_true, Bool.not_false]
    exact ⟨hd3, rfl⟩

end
end Go.Proofs.YtgbphddecpjlhaaGreatDoor.N
end

section
set_option linter.unusedSimpArgs false
set_option linter.unusedVariables false
namespace Go.Proofs.YtgbphddecpjlhaaGreatDoor.N
open Go Go.Am

section
variable {J : Jd} {V : VEnv}

theorem jinstr (hJ : JOk J V) (hV : VLe V) (x : Ins) (hl : JL J V x.l) (he : JL J V x.e) (hok : okI resI x = true) (hwf : wfI x) (htag : tagI x ≤ 1000000000) : JI J V x := by
  obtain ⟨op, r, a, b, nn, tg, ll, le⟩ := x
  intro n d c hn hc
  simp only [Ins.l, Ins.e] at hl he
  simp only [okI, Bool.and_eq_true] at hok
  obtain ⟨hres, hokl, hoke⟩ := hok
  have hr : 0 ≤ r ∧ r ≤ 1 := of_decide_eq_true hres
  simp only [wfI] at hwf
  obtain ⟨_, _, wa, _, _, ⟨wt1, wt2⟩, ⟨_, wl⟩, _, we⟩ := hwf
  simp only [tagI] at htag
  simp only [numI] at hc
  have ha := inU32 wa
  have htg : ∀ x ∈ tg, 0 ≤ x ∧ x < 4294967296 := fun x hx => by have := inU32 (wt2 x hx); omega
  obtain ⟨aN, rfl⟩ := Int.eq_ofNat_of_zero_le (show 0 ≤ a by omega)
  have ha' : aN < 4294967296 := by omega
  show JRun J 92 (aggI op r aN b nn tg ll le) n d c (valI V J.L.reverse (.mk op r aN b nn tg ll le) n d c)
  simp only [valI]
  by_cases o0 : op = 0
  · subst o0
    rw [if_pos rfl]
    exact jone_dead.run
  rw [if_neg o0]
  by_cases o23 : op = 2 ∨ op = 3
  · rw [if_pos o23]
    have h := jone_open (a := aN) (b := b) (nn := nn) (tg := tg) (le := le) o23 hr hl (n := n) (c := c) (d := d) hn (by omega)
    cases hv : valL V ((if op = 3 then 0 else r.toNat) :: J.L.reverse) ll 0 false c <;> (rw [hv] at h; exact h)
  rw [if_neg o23]
  by_cases o4 : op = 4
  · subst o4
    rw [if_pos rfl]
    exact jone_if hr hl he hV hJ.lab hokl hn (by omega)
  rw [if_neg o4]
  by_cases o12 : op = 12
  · subst o12; exact (jone_jump (.inl rfl) (jbr_run hJ (by omega) aN ha')).run
  by_cases o13 : op = 13
  · subst o13; exact (jone_jump (.inr (.inl rfl)) (jbi_run hJ (by omega) aN ha')).run
  by_cases o14 : op = 14
  · subst o14; exact (jone_jump (.inr (.inr (.inl rfl))) (jtab_run hJ (by omega) (by omega) htg aN ha')).run
  by_cases o15 : op = 15
  · subst o15; exact (jone_jump (.inr (.inr (.inr rfl))) (jret_run hJ (by omega) J.L.reverse)).run
  by_cases o16 : op = 16
  · subst o16; exact (jone_call (.inl rfl) (jcall_run hJ (by omega) aN ha' J.L.reverse)).run
  by_cases o17 : op = 17
  · subst o17; exact (jone_call (.inr rfl) (jind_run hJ (by omega) aN ha' J.L.reverse)).run
  exact (jplain_run hJ (by omega) aN ha' J.L.reverse ⟨o0, by omega, by omega, o4, o12, o13, o14, o15, o16, o17⟩).run

theorem lab1_ok (hJ : JOk J V) {lab : Nat} (hl : lab ≤ 1) (hn : J.L.length ≤ 1000) : JOk (lab1 J lab) V where
  v := hJ.v
  ty := hJ.ty
  indP := hJ.indP
  lab k hk := by
    have hk : k ∈ J.L ++ [lab] := hk
    rcases List.mem_append.1 hk with hk | hk
    · exact hJ.lab k hk
    · simp only [List.mem_singleton] at hk; omega
  len := by show (J.L ++ [lab]).length ≤ _; simp; omega

theorem all_list (hV : VLe V) : ∀ l : List Ins, ∀ J : Jd, JOk J V → J.L.length + depL 1 l ≤ 1000 → okL resI l = true → wfL l → tagL l ≤ 1000000000 → numL l ≤ 1000000000 → JL J V l := by
  refine ins_rec fun l hl => ?_
  intro J hJ hd hok hw ht hn
  refine jlist_of hV l hok hn hJ.lab (by omega) fun lab hlab x hx => ?_
  have hJ1 := lab1_ok hJ hlab (by omega)
  have hlen1 : (lab1 J lab).L.length = J.L.length + 1 := by show (J.L ++ [lab]).length = _; simp
  obtain ⟨h1, h2⟩ := hl x hx
  have h3 := okL_mem hok x hx
  have h4 := wfL_mem hw x hx
  have h5 := tagL_mem x hx
  have h6 := depL_mem (d := 1) x hx
  have h7 := numL_mem hx
  obtain ⟨op, r, a, b, nn, tg, ll, le⟩ := x
  simp only [okI, Bool.and_eq_true] at h3
  simp only [tagI] at h5
  simp only [depI, Nat.reduceAdd] at h6
  simp only [numI] at h7
  have d1 := depL_in ll
  have d2 := depL_in le
  simp only [Ins.l, Ins.e] at h1 h2
  simp only [wfI] at h4
  refine jinstr hJ1 hV _ (h1 _ hJ1 (by omega) h3.2.1 h4.2.2.2.2.2.2.1.2 (by omega) (by omega)) (h2 _ hJ1 (by omega) h3.2.2 h4.2.2.2.2.2.2.2.2 (by omega) (by omega)) (by simp only [okI, Bool.and_eq_true]; exact h3) (by simp only [wfI]; exact h4) (by simp only [tagI]; omega)

end
end Go.Proofs.YtgbphddecpjlhaaGreatDoor.N
end
