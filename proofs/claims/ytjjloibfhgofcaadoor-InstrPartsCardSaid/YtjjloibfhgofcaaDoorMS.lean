/-
  The law InstrParts: its steps.
  The law InstrParts answers with yes.
  What the row's condition tells: the library's tables, cell by cell.
-/
import Derived.Test.YtjjloibfhgofcaaDoorMR
import Derived.Test.YtjjloibfhgofcaaDoorMK
import Derived.Test.YtjjloibfhgofcaaDoorRows
import Derived.MakeChecks

section
set_option linter.unusedVariables false
set_option linter.unusedSimpArgs false
namespace Go.Proofs.YtjjloibfhgofcaaDoor.N
open Go Go.Am

def ptC (_l : List Ins) (c k : Int) (f : FuncId) (_ : List AV) (m : Mem) : Option (AV × Mem) := cond (Nat.beq f 16) (some (sB true, m)) (cond (Nat.beq f 17) (some (sI .i64 c, m)) (cond (Nat.beq f 12) (some (sI .i64 k, m)) none))
def plC (_l : List Ins) (_i : Nat) (_op _r _a _b _nn : Int) (_tg : List Int) (_ll _le _one : List Ins) (_mn _dp _mn1 _dp1 : Int) (_s _s1 : List UInt8) (N D : List PV → Nat) (T : List PV → List UInt8) (f : FuncId) (args : List AV) (m : Mem) : Option (AV × Mem) := match args with
  | [.p (.ps _ _ cs)] => cond (Nat.beq f 12) (some (sI .i64 0, m)) (cond (Nat.beq f 14) (some (sI .i64 (N cs), m)) (cond (Nat.beq f 15) (some (sI .i64 (D cs), m)) (cond (Nat.beq f 18) (some (sS (T cs), m)) none)))
  | _ => none
def plS (_l : List Ins) (i : Nat) (op r a b nn : Int) (tg : List Int) (ll le one : List Ins) (_mn _dp mn1 dp1 : Int) (_s s1 : List UInt8) (_N _D : List PV → Nat) (_T : List PV → List UInt8) : FuncId → Nat → Nat → Option (AV → AV) := shapeAt [(5, 9, 3, aggI op r a b nn tg ll le), (5, 10, 4, aL one), (5, 13, 5, aL one), (5, 13, 7, sS s1), (5, 8, 1, sI .i64 ((i + 1 : Nat) : Int))]
/- pt: 61 steps -/
noncomputable def ptOrc (l : List Ins) (_c : Int) (_k : Int) : Orc := orcL (ptC l _c _k) (ptC l _c _k) [(5, 1)] [(5, 3, 4), (5, 0, 0)] []
def ptSc : Sc := (.fork (.lit .fin) .fin)
noncomputable def ptTree (l : List Ins) (_c : Int) (_k : Int) : Tree :=
  (.call ⟨16, [], [], AV.p (PV.sc (Value.bool true)), []⟩
   (.call ⟨17, [AV.p (PV.ps l.length 8 (encL l)), AV.p (PV.sc (Value.int IntKind.i64 2000))], [], AV.p (PV.sc (Value.int IntKind.i64 _c)), []⟩
    (.test (decide (_c > 2000))
     (.out (Out.ret (AV.p (PV.sc (Value.bool true))) []))
     (.call ⟨12, [AV.p (PV.ps l.length 8 (encL l))], [], AV.p (PV.sc (Value.int IntKind.i64 _k)), []⟩
      (.test (_k != 0)
       (.out (Out.ret (AV.p (PV.sc (Value.bool true))) []))
       (.at (bodyCfg Tryd.prog envP 5 1 [AV.p (PV.ps l.length 8 (encL l)), AV.p (PV.sc (Value.bool true)), AV.p (PV.sc (Value.int IntKind.i64 0)), AV.p (PV.sc (Value.string (ByteArray.mk #[]))), AV.p (PV.sc (Value.int IntKind.i64 0)), AV.p (PV.sc (Value.int IntKind.i64 0))] ([]) 0 95)))))))
theorem pt_tree (l : List Ins) (_c : Int) (_k : Int) : growF Tryd.prog envP (ptOrc l _c _k) 1000000 5 ([aL l]) ([]) ptSc = ptTree l _c _k := by kernel_rfl

/- pl: 148 steps -/
noncomputable def plOrc (l : List Ins) (i : Nat) (op : Int) (r : Int) (a : Int) (b : Int) (nn : Int) (tg : List Int) (ll : List Ins) (le : List Ins) (one : List Ins) (mn : Int) (dp : Int) (mn1 : Int) (dp1 : Int) (s : List UInt8) (s1 : List UInt8) (N : List PV → Nat) (D : List PV → Nat) (T : List PV → List UInt8) : Orc := orcS (plC l i op r a b nn tg ll le one mn dp mn1 dp1 s s1 N D T) (plC l i op r a b nn tg ll le one mn dp mn1 dp1 s s1 N D T) [(5, 1)] [(5, 0, 2), (5, 15, 8), (5, 15, 14)] [(5, 9, 2), (5, 9, 3), (5, 10, 4), (5, 13, 5), (5, 13, 7)] (plS l i op r a b nn tg ll le one mn dp mn1 dp1 s s1 N D T)
def plSc : Sc := (.fork .fin (.fork .fin (.lit .fin)))
noncomputable def plTree (l : List Ins) (i : Nat) (op : Int) (r : Int) (a : Int) (b : Int) (nn : Int) (tg : List Int) (ll : List Ins) (le : List Ins) (one : List Ins) (mn : Int) (dp : Int) (mn1 : Int) (dp1 : Int) (s : List UInt8) (s1 : List UInt8) (N : List PV → Nat) (D : List PV → Nat) (T : List PV → List UInt8) : Tree :=
  (.test (decide ((↑i : Int) < (↑l.length : Int)))
   (.must (inB (↑i : Int) l.length && true && true)
    (.must (isInt IntKind.i64 ((encL l).getD ((↑i : Int).toNat * 8) PV.bad) && (isInt IntKind.i64 ((encL l).getD ((↑i : Int).toNat * 8 + 1) PV.bad) && (isInt IntKind.u32 ((encL l).getD ((↑i : Int).toNat * 8 + 1 + 1) PV.bad) && (isInt IntKind.u32 ((encL l).getD ((↑i : Int).toNat * 8 + 1 + 1 + 1) PV.bad) && (isInt IntKind.i32 ((encL l).getD ((↑i : Int).toNat * 8 + 1 + 1 + 1 + 1) PV.bad) && (isPs ((encL l).getD ((↑i : Int).toNat * 8 + 1 + 1 + 1 + 1 + 1) PV.bad) && (isPs ((encL l).getD ((↑i : Int).toNat * 8 + 1 + 1 + 1 + 1 + 1 + 1) PV.bad) && (isPs ((encL l).getD ((↑i : Int).toNat * 8 + 1 + 1 + 1 + 1 + 1 + 1 + 1) PV.bad) && true))))))) && true)
     (.need (AV.agg [AV.p (PV.sc (Value.int IntKind.i64 (pvInt ((encL l).getD ((↑i : Int).toNat * 8) PV.bad)))), AV.p (PV.sc (Value.int IntKind.i64 (pvInt ((encL l).getD ((↑i : Int).toNat * 8 + 1) PV.bad)))), AV.p (PV.sc (Value.int IntKind.u32 (pvInt ((encL l).getD ((↑i : Int).toNat * 8 + 1 + 1) PV.bad)))), AV.p (PV.sc (Value.int IntKind.u32 (pvInt ((encL l).getD ((↑i : Int).toNat * 8 + 1 + 1 + 1) PV.bad)))), AV.p (PV.sc (Value.int IntKind.i32 (pvInt ((encL l).getD ((↑i : Int).toNat * 8 + 1 + 1 + 1 + 1) PV.bad)))), AV.p (PV.ps (psLen ((encL l).getD ((↑i : Int).toNat * 8 + 1 + 1 + 1 + 1 + 1) PV.bad)) (psSz ((encL l).getD ((↑i : Int).toNat * 8 + 1 + 1 + 1 + 1 + 1) PV.bad)) (psCells ((encL l).getD ((↑i : Int).toNat * 8 + 1 + 1 + 1 + 1 + 1) PV.bad))), AV.p (PV.ps (psLen ((encL l).getD ((↑i : Int).toNat * 8 + 1 + 1 + 1 + 1 + 1 + 1) PV.bad)) (psSz ((encL l).getD ((↑i : Int).toNat * 8 + 1 + 1 + 1 + 1 + 1 + 1) PV.bad)) (psCells ((encL l).getD ((↑i : Int).toNat * 8 + 1 + 1 + 1 + 1 + 1 + 1) PV.bad))), AV.p (PV.ps (psLen ((encL l).getD ((↑i : Int).toNat * 8 + 1 + 1 + 1 + 1 + 1 + 1 + 1) PV.bad)) (psSz ((encL l).getD ((↑i : Int).toNat * 8 + 1 + 1 + 1 + 1 + 1 + 1 + 1) PV.bad)) (psCells ((encL l).getD ((↑i : Int).toNat * 8 + 1 + 1 + 1 + 1 + 1 + 1 + 1) PV.bad)))] = aggI op r a b nn tg ll le)
      (.must (decide (0 ≤ IntKind.i64.wrap ((↑i : Int) + 1)) && (↑i : Int).toNat.ble (IntKind.i64.wrap ((↑i : Int) + 1)).toNat && (IntKind.i64.wrap ((↑i : Int) + 1)).toNat.ble l.length && true && true)
       (.need (AV.p (PV.ps ((IntKind.i64.wrap ((↑i : Int) + 1)).toNat - (↑i : Int).toNat) 8 (cut (encL l) (times (Option.some (Operand.tmp 30)) (↑i : Int).toNat 8) (times (Option.some (Operand.tmp 32)) (IntKind.i64.wrap ((↑i : Int) + 1)).toNat 8))) = aL one)
        (.call ⟨12, [AV.p (PV.ps one.length 8 (encL one))], [], AV.p (PV.sc (Value.int IntKind.i64 0)), []⟩
         (.call ⟨12, [AV.p (PV.ps ll.length 8 (encL ll))], [], AV.p (PV.sc (Value.int IntKind.i64 0)), []⟩
          (.call ⟨12, [AV.p (PV.ps le.length 8 (encL le))], [], AV.p (PV.sc (Value.int IntKind.i64 0)), []⟩
           (.call ⟨14, [AV.p (PV.ps ll.length 8 (encL ll))], [], AV.p (PV.sc (Value.int IntKind.i64 (↑(N (encL ll)) : Int))), []⟩
           (.call ⟨14, [AV.p (PV.ps le.length 8 (encL le))], [], AV.p (PV.sc (Value.int IntKind.i64 (↑(N (encL le)) : Int))), []⟩
            (.must (decide (0 ≤ IntKind.i64.wrap ((↑i : Int) + 1)) && (↑i : Int).toNat.ble (IntKind.i64.wrap ((↑i : Int) + 1)).toNat && (IntKind.i64.wrap ((↑i : Int) + 1)).toNat.ble l.length && true && true)
             (.need (AV.p (PV.ps ((IntKind.i64.wrap ((↑i : Int) + 1)).toNat - (↑i : Int).toNat) 8 (cut (encL l) (times (Option.some (Operand.tmp 60)) (↑i : Int).toNat 8) (times (Option.some (Operand.tmp 62)) (IntKind.i64.wrap ((↑i : Int) + 1)).toNat 8))) = aL one)
              (.call ⟨18, [AV.p (PV.ps one.length 8 (encL one))], [], AV.p (PV.sc (Value.string (ByteArray.mk (T (encL one)).toArray))), []⟩
               (.must (((ByteArray.mk s.toArray).data.toList.length + (ByteArray.mk (T (encL one)).toArray).data.toList.length).ble lim && true)
                (.need (AV.p (PV.sc (Value.string (ByteArray.mk s.toArray ++ ByteArray.mk (T (encL one)).toArray))) = sS s1)
                 (.call ⟨15, [AV.p (PV.ps ll.length 8 (encL ll))], [], AV.p (PV.sc (Value.int IntKind.i64 (↑(D (encL ll)) : Int))), []⟩
                 (.call ⟨15, [AV.p (PV.ps le.length 8 (encL le))], [], AV.p (PV.sc (Value.int IntKind.i64 (↑(D (encL le)) : Int))), []⟩
                  (.need (AV.p (PV.sc (Value.int IntKind.i64 (IntKind.i64.wrap ((↑i : Int) + 1)))) = sI IntKind.i64 (↑(i + 1) : Int))
                   (.at (bodyCfg Tryd.prog envP 5 1 [AV.p (PV.ps l.length 8 (encL l)), AV.p (PV.sc (Value.bool true)), AV.p (PV.sc (Value.int IntKind.i64 (IntKind.i64.wrap (IntKind.i64.wrap (IntKind.i64.wrap (mn + 1) + (↑(N (encL ll)) : Int)) + (↑(N (encL le)) : Int))))), AV.p (PV.sc (Value.string (ByteArray.mk s1.toArray))), AV.p (PV.sc (Value.int IntKind.i64 (if IntKind.i64.wrap (1 + (↑(D (encL le)) : Int)) > if IntKind.i64.wrap (1 + (↑(D (encL ll)) : Int)) > dp then IntKind.i64.wrap (1 + (↑(D (encL ll)) : Int)) else dp then IntKind.i64.wrap (1 + (↑(D (encL le)) : Int)) else if IntKind.i64.wrap (1 + (↑(D (encL ll)) : Int)) > dp then IntKind.i64.wrap (1 + (↑(D (encL ll)) : Int)) else dp))), AV.p (PV.sc (Value.int IntKind.i64 (↑(i + 1) : Int)))] ([]) 0 95))))))))))))))))))))
   (.call ⟨14, [AV.p (PV.ps l.length 8 (encL l))], [], AV.p (PV.sc (Value.int IntKind.i64 (↑(N (encL l)) : Int))), []⟩
    (.test (mn == (↑(N (encL l)) : Int))
     (.call ⟨18, [AV.p (PV.ps l.length 8 (encL l))], [], AV.p (PV.sc (Value.string (ByteArray.mk (T (encL l)).toArray))), []⟩
      (.test ((ByteArray.mk s.toArray).data.toList == (ByteArray.mk (T (encL l)).toArray).data.toList)
       (.call ⟨15, [AV.p (PV.ps l.length 8 (encL l))], [], AV.p (PV.sc (Value.int IntKind.i64 (↑(D (encL l)) : Int))), []⟩
        (.out (Out.ret (AV.p (PV.sc (Value.bool (dp == (↑(D (encL l)) : Int))))) [])))
       (.out (Out.ret (AV.p (PV.sc (Value.bool false))) []))))
     (.out (Out.ret (AV.p (PV.sc (Value.bool false))) [])))))
theorem pl_tree (l : List Ins) (i : Nat) (op : Int) (r : Int) (a : Int) (b : Int) (nn : Int) (tg : List Int) (ll : List Ins) (le : List Ins) (one : List Ins) (mn : Int) (dp : Int) (mn1 : Int) (dp1 : Int) (s : List UInt8) (s1 : List UInt8) (N : List PV → Nat) (D : List PV → Nat) (T : List PV → List UInt8) : grow Tryd.prog envP (plOrc l i op r a b nn tg ll le one mn dp mn1 dp1 s s1 N D T) 1000000 true (bodyCfg Tryd.prog envP 5 1 ([aL l, sB true, sI IntKind.i64 mn, sS s, sI IntKind.i64 dp, sI IntKind.i64 (↑i : Int)]) ([]) 0 95) plSc atEnd = plTree l i op r a b nn tg ll le one mn dp mn1 dp1 s s1 N D T := by kernel_rfl


theorem numsL_append : ∀ a b : List Ins, Am.numL (a ++ b) = Am.numL a + Am.numL b
  | [], b => by simp [Am.numL]
  | x :: a, b => by rw [List.cons_append, Am.numL, Am.numL, numsL_append a b, Nat.add_assoc]

theorem depL_append (d : Nat) : ∀ a b : List Ins, depL d (a ++ b) = max (depL d a) (depL d b)
  | [], b => by simp [depL]
  | x :: a, b => by rw [List.cons_append, depL, depL, depL_append d a b, Nat.max_assoc]

theorem tagL_append : ∀ a b : List Ins, tagL (a ++ b) = max (tagL a) (tagL b)
  | [], b => by simp [tagL]
  | x :: a, b => by rw [List.cons_append, tagL, tagL, tagL_append a b, Nat.max_assoc]

theorem okL_append (p : Ins → Bool) : ∀ a b : List Ins, okL p (a ++ b) = (okL p a && okL p b)
  | [], b => by simp [okL]
  | x :: a, b => by rw [List.cons_append, okL, okL, okL_append p a b, Bool.and_assoc]

mutual
theorem depI_up : ∀ (x : Ins) (c d : Nat), max (c + 1) (depI (d + 1) x) = 1 + max c (depI d x)
  | .mk op r a b nn tg l e, c, d => by
    have h1 := depL_up l 0 (d + 1)
    have h2 := depL_up e 0 (d + 1)
    simp only [depI]
    omega
theorem depL_up : ∀ (l : List Ins) (c d : Nat), max (c + 1) (depL (d + 1) l) = 1 + max c (depL d l)
  | [], c, d => by simp only [depL]; omega
  | x :: r, c, d => by
    have h1 := depI_up x c d
    have h2 := depL_up r c d
    simp only [depL]
    omega
end

theorem checkF_zero {p : Ins → Bool} {l : List Ins} (h1 : okL p l = true) (h2 : Am.numL l ≤ 262144) (h3 : tagL l ≤ 16384) (h4 : depL 1 l ≤ 900) : checkF p l = 0 := by
  unfold checkF
  rw [if_neg (by rw [h1]; simp), if_neg (by omega)]

/-- A list's parts are as right as the list. -/
theorem parts_ok {p : Ins → Bool} {l a b : List Ins} {op r x y nn : Int} {tg : List Int} {ll le : List Ins} (h : checkF p l = 0) (hl : l = a ++ .mk op r x y nn tg ll le :: b) :
    checkF p [.mk op r x y nn tg ll le] = 0 ∧ checkF p ll = 0 ∧ checkF p le = 0 ∧ okL p l = true := by
  unfold checkF at h
  split at h
  · cases h
  rename_i h1
  split at h
  · cases h
  rename_i h2
  have h1 : okL p l = true := by simpa using h1
  have h0 := h1
  rw [hl] at h1 h2
  have d1 := depL_up ll 0 1
  have d2 := depL_up le 0 1
  rw [okL_append] at h1
  rw [numsL_append, tagL_append, depL_append] at h2
  simp only [okL, okI, Bool.and_eq_true, Am.numL, Am.numI, tagL, tagI, depL, depI] at h1 h2 d1 d2
  obtain ⟨-, ⟨q1, q2, q3⟩, -⟩ := h1
  refine ⟨checkF_zero (by simp only [okL, okI, q1, q2, q3, Bool.and_true]) ?_ ?_ ?_, checkF_zero q2 (by omega) (by omega) (by omega), checkF_zero q3 (by omega) (by omega) (by omega), h0⟩
  all_goals simp only [Am.numL, Am.numI, tagL, tagI, depL, depI]; omega

theorem name_some {x : Ins} (h : mayI x = true) : nameB (Ins.op x) ≠ [] := by
  obtain ⟨op, r, a, b, nn, tg, ll, le⟩ := x
  simp only [mayI, mayF, Bool.and_eq_true, Bool.not_eq_true'] at h
  intro e
  have h := h.1
  rw [show (nm op).data.toList = [] from e] at h
  exact absurd h (by decide)

theorem text_does {l : List Ins} (hw : wfL l) (hok : okL mayI l = true) (hc : cntL l ≤ 2000) : Does Tryd.prog envP 18 [aL l] [] (sS (txtL l)) [] := by
  have hmax : maxT = 1000000000 := rfl
  match l, hw, hok, hc with
  | [], _, _, _ => exact text_none
  | x :: l, hw, hok, hc =>
    refine text_some hw (name_some ?_) (by omega)
    obtain ⟨op, r, a, b, nn, tg, ll, le⟩ := x
    simp only [okL, okI, Bool.and_eq_true] at hok
    exact hok.1.1

theorem one_cells {l : List Ins} {i : Nat} {x : Ins} (h : l[i]? = some x) : ((encL l).take ((i + 1) * 8)).drop (i * 8) = encL [x] := by
  have hi := (List.getElem?_eq_some_iff.1 h).1
  have e : l = l.take i ++ (x :: l.drop (i + 1)) := by rw [← drop_at h, List.take_append_drop]
  have hlen : (encL (l.take i)).length = i * 8 := by rw [encL_length, List.length_take]; omega
  have hx := encI_length x
  rw [e, encL_append, encL, List.take_append, List.drop_append, hlen]
  rw [List.take_of_length_le (by omega), hlen, List.drop_eq_nil_of_le (by omega), show (i + 1) * 8 - i * 8 = 8 by omega, Nat.sub_self, List.drop_zero, List.nil_append, List.take_append, hx, Nat.sub_self, List.take_zero, List.append_nil, List.take_of_length_le (by omega)]
  simp [encL]

end Go.Proofs.YtjjloibfhgofcaaDoor.N
end

section
set_option linter.unusedVariables false
set_option linter.unusedSimpArgs false
namespace Go.Proofs.YtjjloibfhgofcaaDoor.N
open Go Go.Am

theorem checkP (l : List Ins) (h : cntL l ≤ 2000) : Does Tryd.prog envP 12 [aL l] [] (sI .i64 (checkF mayI l)) [] :=
  Does.toP (check_does mayI_does l (by have := numL_cnt l; omega))

theorem countP (l : List Ins) (h : cntL l ≤ 2000) : Does Tryd.prog envP 14 [aL l] [] (sI .i64 (Am.numL l)) [] :=
  Does.toP (count_does l (by have := numL_cnt l; omega))

theorem deepP (l : List Ins) (h : cntL l ≤ 2000) : Does Tryd.prog envP 15 [aL l] [] (sI .i64 (depL 1 l)) [] :=
  Does.toP (deep_does l (by have := numL_cnt l; omega))

theorem deepB {p : Ins → Bool} {l : List Ins} (h : checkF p l = 0) : depL 1 l ≤ 900 := by
  unfold checkF at h
  split at h
  · cases h
  split at h
  · cases h
  omega

theorem cntL_append : ∀ a b : List Ins, cntL (a ++ b) = cntL a + cntL b
  | [], b => by simp [cntL]
  | x :: a, b => by rw [List.cons_append, cntL, cntL, cntL_append a b, Nat.add_assoc]

theorem pl_loop {l : List Ins} (hw : wfL l) (hok : checkF mayI l = 0) (hc : cntL l ≤ 2000) : ∀ (k i : Nat), i + k = l.length →
    Am.Good Tryd.prog envP (bodyCfg Tryd.prog envP 5 1 [aL l, sB true, sI .i64 (Am.numL (l.take i)), sS (txtL (l.take i)), sI .i64 (depL 1 (l.take i)), sI .i64 i] [] 0 95) (.ret (sB true) []) := by
  have hlim : lim = 70368744177664 := rfl
  have hll := cntL_length l
  have hokl : okL mayI l = true := by
    unfold checkF at hok
    split at hok
    · cases hok
    · rename_i h; simpa using h
  intro k
  induction k with
  | zero =>
    intro i hi
    have hiI : ¬ (i : Int) < (l.length : Int) := by omega
    have ht : l.take i = l := List.take_of_length_le (by omega)
    rw [ht]
    refine good_of_tree names (pl_tree l i 0 0 0 0 0 [] [] [] [] (Am.numL l) (depL 1 l) 0 0 (txtL l) [] (ofCells 0 Am.numL) (ofCells 0 (depL 1)) (ofCells [] txtL)) ?_
    simp only [plTree, Tree.ok, ofCells_eq]
    exact ⟨fun h => absurd (by simpa using h) hiI, fun _ => ⟨countP l hc, fun _ => ⟨text_does hw hokl hc, fun _ => ⟨deepP l hc, by simp⟩, fun h => absurd h (by simp)⟩, fun h => absurd h (by simp)⟩⟩
  | succ k ih =>
    intro i hi
    obtain ⟨x, hg⟩ : ∃ x, l[i]? = some x := ⟨l[i]'(by omega), List.getElem?_eq_getElem (by omega)⟩
    have hwx := wfL_mem hw (List.mem_of_getElem? hg)
    have hone := one_cells hg
    have htk : l.take (i + 1) = l.take i ++ [x] := by rw [List.take_add_one, hg]; rfl
    have hsp : l = l.take i ++ (x :: l.drop (i + 1)) := by rw [← drop_at hg, List.take_append_drop]
    obtain ⟨op, r, a, b, nn, tg, ll, le⟩ := x
    obtain ⟨-, -, -, -, -, -, ⟨-, wll⟩, -, wle⟩ := id hwx
    obtain ⟨k1, k2, k3, -⟩ := parts_ok hok hsp
    have o1 : okL mayI [.mk op r a b nn tg ll le] = true := by
      unfold checkF at k1
      split at k1
      · cases k1
      · rename_i h; simpa using h
    have hcs := congrArg cntL hsp
    rw [cntL_append] at hcs
    simp only [cntL, cntI] at hcs
    have hn0 := numL_cnt l
    have hns := congrArg Am.numL hsp
    rw [numsL_append] at hns
    simp only [Am.numL, Am.numI] at hns
    have hd0 := deepB hok
    have hds := congrArg (depL 1) hsp
    rw [depL_append] at hds
    simp only [depL, depI] at hds
    have u1 := depL_up ll 0 1
    have u2 := depL_up le 0 1
    have hx := txtL_len (l.take i)
    have hx1 := txtL_len [.mk op r a b nn tg ll le]
    have hc1 : cntL [.mk op r a b nn tg ll le] ≤ 2000 := by simp only [cntL, cntI]; omega
    have e1 : Am.numL (l.take (i + 1)) = Am.numL (l.take i) + (1 + Am.numL ll + Am.numL le) := by rw [htk, numsL_append]; simp [Am.numL, Am.numI]
    have e2 : txtL (l.take (i + 1)) = txtL (l.take i) ++ txtL [.mk op r a b nn tg ll le] := by rw [htk, txtL_append]
    have e3 : depL 1 (l.take (i + 1)) = max (depL 1 (l.take i)) (max 1 (max (depL 2 ll) (depL 2 le))) := by rw [htk, depL_append]; simp [depL, depI]
    have nx := ih (i + 1) (by omega)
    obtain ⟨c0, c1, c2, c3, c4, c5, c6, c7⟩ := cells_at hg
    have w1 : IntKind.i64.wrap ((i : Int) + 1) = ((i + 1 : Nat) : Int) := by rw [i64In (by omega) (by omega)]; rfl
    have hiI : (i : Int) < (l.length : Int) := by omega
    have m1 : IntKind.i64.wrap ((Am.numL (l.take i) : Int) + 1) = (Am.numL (l.take i) : Int) + 1 := i64In (by omega) (by omega)
    have m2 : IntKind.i64.wrap ((Am.numL (l.take i) : Int) + 1 + (Am.numL ll : Int)) = (Am.numL (l.take i) : Int) + 1 + (Am.numL ll : Int) := i64In (by omega) (by omega)
    have m3 : IntKind.i64.wrap ((Am.numL (l.take i) : Int) + 1 + (Am.numL ll : Int) + (Am.numL le : Int)) = (Am.numL (l.take (i + 1)) : Int) := by rw [i64In (by omega) (by omega), e1]; omega
    have m4 : IntKind.i64.wrap (1 + (depL 1 ll : Int)) = 1 + (depL 1 ll : Int) := i64In (by omega) (by omega)
    have m5 : IntKind.i64.wrap (1 + (depL 1 le : Int)) = 1 + (depL 1 le : Int) := i64In (by omega) (by omega)
    have m6 : (if 1 + (depL 1 le : Int) > if 1 + (depL 1 ll : Int) > (depL 1 (l.take i) : Int) then 1 + (depL 1 ll : Int) else (depL 1 (l.take i) : Int) then 1 + (depL 1 le : Int) else if 1 + (depL 1 ll : Int) > (depL 1 (l.take i) : Int) then 1 + (depL 1 ll : Int) else (depL 1 (l.take i) : Int)) = (depL 1 (l.take (i + 1)) : Int) := by
      rw [e3]
      simp only [Nat.reduceAdd] at u1 u2
      split <;> split at * <;> omega
    have hcut : ∀ u v : Operand, AV.p (PV.ps (i + 1 - i) 8 (cut (encL l) (times (some u) i 8) (times (some v) (i + 1) 8))) = aL [.mk op r a b nn tg ll le] := fun u v => by
      simp only [cut, times, Option.map_some, hone]
      rw [show i + 1 - i = 1 by omega]; rfl
    have hstr : AV.p (PV.sc (Value.string (ByteArray.mk (txtL (l.take i)).toArray ++ ByteArray.mk (txtL [.mk op r a b nn tg ll le]).toArray))) = sS (txtL (l.take (i + 1))) := by
      rw [e2, sS_of]
      congr 1
    refine good_of_tree names (pl_tree l i op r a b nn tg ll le [.mk op r a b nn tg ll le] (Am.numL (l.take i)) (depL 1 (l.take i)) 0 0 (txtL (l.take i)) (txtL (l.take (i + 1))) (ofCells 0 Am.numL) (ofCells 0 (depL 1)) (ofCells [] txtL)) ?_
    simp only [plTree, Tree.ok, Int.toNat_natCast, Nat.add_assoc, Nat.reduceAdd, c0, c1, c2, c3, c4, c5, c6, c7, isInt, isPs, pvInt, psLen, psSz, psCells, inB, w1, ofCells_eq, m1, m2, m3, m4, m5, m6]
    have z1 := checkP [.mk op r a b nn tg ll le] hc1
    have z2 := checkP ll (by omega)
    have z3 := checkP le (by omega)
    rw [k1] at z1; rw [k2] at z2; rw [k3] at z3
    refine ⟨fun _ => ⟨by simp [hiI], by simp, rfl, ?_, hcut _ _, z1, z2, z3, countP ll (by omega), countP le (by omega), ?_, hcut _ _, text_does ⟨hwx, trivial⟩ o1 hc1, ?_, hstr, deepP ll (by omega), deepP le (by omega), ?_, ?_⟩, fun h => absurd hiI (by simpa using h)⟩
    · simp; omega
    · simp; omega
    · simp only [Bool.and_true, Nat.ble_eq]; simp only [cntL, cntI] at hx1; omega
    · trivial
    · exact nx

theorem ins_len {l : List Ins} (h : insF l 2000 0 ≤ 2000) : cntL l ≤ 2000 := by
  have := insF_cnt l 2000 0 (by omega) (by omega) h
  omega

theorem parts_does {l : List Ins} (hl : l.length ≤ maxLen) (hw : wfL l) : Does Tryd.prog envP 5 [aL l] [] (sB true) [] := by
  refine does_of_tree names (pt_tree l (insF l 2000 0) (checkF mayI l)) ?_
  simp only [ptTree, Tree.ok]
  refine ⟨awakeP_does, instrs_does (cntL l) l 2000 (Nat.le_refl _) hl hw (by omega) (by omega), fun _ => trivial, fun h1 => ⟨checkP l (ins_len (by simpa using h1)), fun _ => trivial, fun h2 => ?_⟩⟩
  have h1 : insF l 2000 0 ≤ 2000 := by simpa using h1
  have h2 : checkF mayI l = 0 := by simpa using h2
  have h := pl_loop hw h2 (ins_len h1) l.length 0 (by omega)
  rw [List.take_zero] at h
  exact h

end Go.Proofs.YtjjloibfhgofcaaDoor.N
end

section
namespace Go.Proofs.YtjjloibfhgofcaaDoor.N
open Go Go.Am

def laidTabP : List (String × DataW Unit) := Rows.instrPartsRow.laid

theorem tabsP_hold {W : World} (h : laidMetH Tryd.prog laidTabP W) : TabsHold tabsP W := by
  rw [MakeChecks.laidMetH_plain _ _ _ (by kernel_rfl)] at h
  exact tabsHold_cons (table_holds (n := 256) (t := 143) (e := 5) (k := .u8) (zs := spaceZ) (Lib.laidMet.reads h (n := "strings.asciiSpace") (d := Rows.laid_strings_asciiSpace) (.tail _ (.tail _ (.tail _ (.tail _ (.head _)))))) (by kernel_rfl) (by kernel_rfl) (by kernel_rfl) (by kernel_rfl) (by kernel_rfl) (by kernel_rfl) (Nat.le_of_ble_eq_true (by kernel_rfl)))
    (tabsHold_cons (table_holds (n := 20) (t := 164) (e := 149) (k := .u64) (zs := powZ) (Lib.laidMet.reads h (n := "internal/strconv.uint64pow10") (d := Rows.laid_internal_strconv_uint64pow10) (.tail _ (.tail _ (.head _)))) (by kernel_rfl) (by kernel_rfl) (by kernel_rfl) (by kernel_rfl) (by kernel_rfl) (by kernel_rfl) (Nat.le_of_ble_eq_true (by kernel_rfl)))
    (tabsHold_nil))

end Go.Proofs.YtjjloibfhgofcaaDoor.N
end
