/-
  The document's check: how many things there are, how many in one another.
-/
import Derived.Test.YtiphaojaolcidaaDoorLmD
set_option linter.unusedVariables false
set_option linter.unusedSimpArgs false
namespace Go.Proofs.YtiphaojaolcidaaDoor.N
open Go Go.Am

def szA (n : Nat) (C : List PV) : List AV := [.p (.ps n 6 C)]
def snA : List AV := [.p (.ps 0 0 [])]
def sbS (_n : Nat) (_C : List PV) (i : Nat) (_acc : Int) (q k : Nat) (cs : List PV) (_x : Int) : FuncId → Nat → Nat → Option (AV → AV) := shapeAt [(17, 6, 5, .p (.ps q k cs)), (17, 8, 5, .p (.ps 0 0 [])), (17, 5, 1, sI .i64 (i + 1 : Nat)), (18, 6, 5, .p (.ps q k cs)), (18, 8, 5, .p (.ps 0 0 [])), (18, 5, 1, sI .i64 (i + 1 : Nat))]
def sbC (_n : Nat) (_C : List PV) (_i : Nat) (_acc : Int) (_q _k : Nat) (_cs : List PV) (x : Int) (f : FuncId) (_ : List AV) (m : Mem) : Option (AV × Mem) := cond (Nat.beq f 17 || Nat.beq f 18) (some (sI .i64 x, m)) none
def sbB (n : Nat) (C : List PV) (i : Nat) (acc : Int) (_q _k : Nat) (_cs : List PV) (_x : Int) : List AV := [.p (.ps n 6 C), sI .i64 acc, sI .i64 i]
def sbN (_n : Nat) (_C : List PV) (_i : Nat) (_acc : Int) (_q _k : Nat) (_cs : List PV) (_x : Int) : Mem := []

/- sz: 17 steps -/
noncomputable def szOrc : Orc := orcL noC' noLed [(17, 0)] [] []
def szSc : Sc := .fin
noncomputable def szTree (n : Nat) (C : List PV) : Tree :=
  (.at (bodyCfg Tryd.prog envM 17 0 [AV.p (PV.ps n 6 C), AV.p (PV.sc (Value.int IntKind.i64 (↑n : Int))), AV.p (PV.sc (Value.int IntKind.i64 0))] ([]) 0 44))
theorem sz_tree (n : Nat) (C : List PV) : growF Tryd.prog envM szOrc 1000000 17 ([AV.p (PV.ps n 6 C)]) ([]) szSc = szTree n C := by kernel_rfl

/- dp: 15 steps -/
noncomputable def dpOrc : Orc := orcL noC' noLed [(18, 0)] [] []
def dpSc : Sc := .fin
noncomputable def dpTree (n : Nat) (C : List PV) : Tree :=
  (.at (bodyCfg Tryd.prog envM 18 0 [AV.p (PV.ps n 6 C), AV.p (PV.sc (Value.int IntKind.i64 0)), AV.p (PV.sc (Value.int IntKind.i64 0))] ([]) 0 44))
theorem dp_tree (n : Nat) (C : List PV) : growF Tryd.prog envM dpOrc 1000000 18 ([AV.p (PV.ps n 6 C)]) ([]) dpSc = dpTree n C := by kernel_rfl

/- sn: 34 steps -/
noncomputable def snOrc : Orc := orcL noC' noLed [] [] []
def snSc : Sc := .fin
noncomputable def snTree : Tree :=
  (.out (Out.ret (AV.p (PV.sc (Value.int IntKind.i64 0))) []))
theorem sn_tree : growF Tryd.prog envM snOrc 1000000 17 ([AV.p (PV.ps 0 0 [])]) ([]) snSc = snTree := by kernel_rfl

/- dn: 32 steps -/
noncomputable def dnOrc : Orc := orcL noC' noLed [] [] []
def dnSc : Sc := .fin
noncomputable def dnTree : Tree :=
  (.out (Out.ret (AV.p (PV.sc (Value.int IntKind.i64 0))) []))
theorem dn_tree : growF Tryd.prog envM dnOrc 1000000 18 ([AV.p (PV.ps 0 0 [])]) ([]) dnSc = dnTree := by kernel_rfl

/- sb: 59 steps -/
noncomputable def sbOrc (n : Nat) (C : List PV) (i : Nat) (acc : Int) (q : Nat) (k : Nat) (cs : List PV) (x : Int) : Orc := orcS (sbC n C i acc q k cs x) noLed [(17, 0)] [(17, 0, 1)] [(17, 6, 3), (17, 6, 5), (17, 8, 3), (17, 8, 5)] (sbS n C i acc q k cs x)
def sbSc : Sc := .fin
noncomputable def sbTree (n : Nat) (C : List PV) (i : Nat) (acc : Int) (q : Nat) (k : Nat) (cs : List PV) (x : Int) : Tree :=
  (.test (decide ((↑i : Int) < (↑n : Int)))
   (.must (inB (↑i : Int) n && true && true)
    (.must (isPs (C.getD ((↑i : Int).toNat * 6 + 4) PV.bad) && true)
     (.need (AV.p (PV.ps (psLen (C.getD ((↑i : Int).toNat * 6 + 4) PV.bad)) (psSz (C.getD ((↑i : Int).toNat * 6 + 4) PV.bad)) (psCells (C.getD ((↑i : Int).toNat * 6 + 4) PV.bad))) = AV.p (PV.ps q k cs))
      (.call ⟨17, [AV.p (PV.ps q k cs)], [], AV.p (PV.sc (Value.int IntKind.i64 x)), []⟩
       (.must (inB (↑i : Int) n && true && true)
        (.must (isPs (C.getD ((↑i : Int).toNat * 6 + 5) PV.bad) && true)
         (.need (AV.p (PV.ps (psLen (C.getD ((↑i : Int).toNat * 6 + 5) PV.bad)) (psSz (C.getD ((↑i : Int).toNat * 6 + 5) PV.bad)) (psCells (C.getD ((↑i : Int).toNat * 6 + 5) PV.bad))) = AV.p (PV.ps 0 0 []))
          (.need (AV.p (PV.sc (Value.int IntKind.i64 (IntKind.i64.wrap ((↑i : Int) + 1)))) = sI IntKind.i64 (↑(i + 1) : Int))
           (.at (bodyCfg Tryd.prog envM 17 0 [AV.p (PV.ps n 6 C), AV.p (PV.sc (Value.int IntKind.i64 (IntKind.i64.wrap (acc + x)))), AV.p (PV.sc (Value.int IntKind.i64 (↑(i + 1) : Int)))] ([]) 0 44))))))))))
   (.out (Out.ret (AV.p (PV.sc (Value.int IntKind.i64 acc))) [])))
theorem sb_tree (n : Nat) (C : List PV) (i : Nat) (acc : Int) (q : Nat) (k : Nat) (cs : List PV) (x : Int) : grow Tryd.prog envM (sbOrc n C i acc q k cs x) 1000000 true (bodyCfg Tryd.prog envM 17 0 ([AV.p (PV.ps n 6 C), sI IntKind.i64 acc, sI IntKind.i64 (↑i : Int)]) ([]) 0 44) sbSc atEnd = sbTree n C i acc q k cs x := by kernel_rfl

/- db: 60 steps -/
noncomputable def dbOrc (n : Nat) (C : List PV) (i : Nat) (acc : Int) (q : Nat) (k : Nat) (cs : List PV) (x : Int) : Orc := orcS (sbC n C i acc q k cs x) noLed [(18, 0)] [(18, 0, 1)] [(18, 6, 3), (18, 6, 5), (18, 8, 3), (18, 8, 5)] (sbS n C i acc q k cs x)
def dbSc : Sc := .fin
noncomputable def dbTree (n : Nat) (C : List PV) (i : Nat) (acc : Int) (q : Nat) (k : Nat) (cs : List PV) (x : Int) : Tree :=
  (.test (decide ((↑i : Int) < (↑n : Int)))
   (.must (inB (↑i : Int) n && true && true)
    (.must (isPs (C.getD ((↑i : Int).toNat * 6 + 4) PV.bad) && true)
     (.need (AV.p (PV.ps (psLen (C.getD ((↑i : Int).toNat * 6 + 4) PV.bad)) (psSz (C.getD ((↑i : Int).toNat * 6 + 4) PV.bad)) (psCells (C.getD ((↑i : Int).toNat * 6 + 4) PV.bad))) = AV.p (PV.ps q k cs))
      (.call ⟨18, [AV.p (PV.ps q k cs)], [], AV.p (PV.sc (Value.int IntKind.i64 x)), []⟩
       (.must (inB (↑i : Int) n && true && true)
        (.must (isPs (C.getD ((↑i : Int).toNat * 6 + 5) PV.bad) && true)
         (.need (AV.p (PV.ps (psLen (C.getD ((↑i : Int).toNat * 6 + 5) PV.bad)) (psSz (C.getD ((↑i : Int).toNat * 6 + 5) PV.bad)) (psCells (C.getD ((↑i : Int).toNat * 6 + 5) PV.bad))) = AV.p (PV.ps 0 0 []))
          (.need (AV.p (PV.sc (Value.int IntKind.i64 (IntKind.i64.wrap ((↑i : Int) + 1)))) = sI IntKind.i64 (↑(i + 1) : Int))
           (.at (bodyCfg Tryd.prog envM 18 0 [AV.p (PV.ps n 6 C), AV.p (PV.sc (Value.int IntKind.i64 (bif false then Min.min acc (IntKind.i64.wrap (1 + x)) else Max.max acc (IntKind.i64.wrap (1 + x))))), AV.p (PV.sc (Value.int IntKind.i64 (↑(i + 1) : Int)))] ([]) 0 44))))))))))
   (.out (Out.ret (AV.p (PV.sc (Value.int IntKind.i64 acc))) [])))
theorem db_tree (n : Nat) (C : List PV) (i : Nat) (acc : Int) (q : Nat) (k : Nat) (cs : List PV) (x : Int) : grow Tryd.prog envM (dbOrc n C i acc q k cs x) 1000000 true (bodyCfg Tryd.prog envM 18 0 ([AV.p (PV.ps n 6 C), sI IntKind.i64 acc, sI IntKind.i64 (↑i : Int)]) ([]) 0 44) dbSc atEnd = dbTree n C i acc q k cs x := by kernel_rfl


/-- How many things stand in a thing; each in the other. -/
def inT : Th → Nat
  | .loop y => 1 + inT y
  | _ => 0

def sumIn : List Th → Nat
  | [] => 0
  | x :: r => inT x + sumIn r

def maxIn : List Th → Nat
  | [] => 0
  | x :: r => max (1 + inT x) (maxIn r)

/-- The list in a thing. -/
def inL : Th → Nat × Nat × List PV
  | .loop y => (1, 6, encT y)
  | _ => (0, 0, [])

theorem encT_in (x : Th) : (encT x).getD 4 .bad = .ps (inL x).1 (inL x).2.1 (inL x).2.2 ∧ (encT x).getD 5 .bad = .ps 0 0 [] := by
  cases x <;> exact ⟨rfl, rfl⟩

theorem nilS : Does Tryd.prog envM 17 [.p (.ps 0 0 [])] [] (sI .i64 0) [] := does_of_tree names sn_tree rfl
theorem nilD : Does Tryd.prog envM 18 [.p (.ps 0 0 [])] [] (sI .i64 0) [] := does_of_tree names dn_tree rfl

theorem sumIn_mem {l : List Th} {x : Th} (h : x ∈ l) : inT x ≤ sumIn l := by
  induction l with
  | nil => cases h
  | cons y r ih =>
    rcases List.mem_cons.1 h with rfl | q
    · simp only [sumIn]; omega
    · have := ih q; simp only [sumIn]; omega

theorem inT_cost : ∀ x : Th, inT x ≤ cost x
  | .out k => by simp only [inT, cost]; omega
  | .fin => by simp only [inT, cost]; omega
  | .loop y => by have := inT_cost y; simp only [inT, cost]; omega

theorem size_loop {l : List Th} (hil : l.length ≤ 1000000) (hc : ∀ x ∈ l, cost x ≤ 1000000) (inner : ∀ x ∈ l, Does Tryd.prog envM 17 [.p (.ps (inL x).1 (inL x).2.1 (inL x).2.2)] [] (sI .i64 (inT x : Nat)) []) :
    ∀ (r i : Nat) (acc : Nat), i + r = l.length → acc + r * 1000001 ≤ 10000000000000 → Am.Good Tryd.prog envM (bodyCfg Tryd.prog envM 17 0 [.p (.ps l.length 6 (encTs l)), sI .i64 (acc : Nat), sI .i64 i] [] 0 44) (.ret (sI .i64 (acc + sumIn (l.drop i) : Nat)) []) := by
  intro r
  induction r with
  | zero =>
    intro i acc hr _
    have hiI : ¬ (i : Int) < (l.length : Int) := by omega
    rw [List.drop_eq_nil_of_le (by omega)]
    refine good_of_tree names (sb_tree l.length (encTs l) i (acc : Nat) 0 0 [] 0) ?_
    simp only [sbTree, Tree.ok, sumIn, maxIn, Nat.add_zero, Nat.max_zero]
    exact ⟨fun h => absurd (by simpa using h) hiI, fun _ => trivial⟩
  | succ r ih =>
    intro i acc hr hacc
    obtain ⟨x, hg⟩ : ∃ x, l[i]? = some x := ⟨l[i]'(by omega), List.getElem?_eq_getElem (by omega)⟩
    have hm := List.mem_of_getElem? hg
    have hcx := hc x hm
    have hci := inT_cost x
    have hiI : (i : Int) < (l.length : Int) := by omega
    obtain ⟨q1, q2⟩ := costs_drop hg
    have c4 := encTs_at hg 4 (by omega)
    have c5 := encTs_at hg 5 (by omega)
    rw [(encT_in x).1] at c4
    rw [(encT_in x).2] at c5
    have w2 : IntKind.i64.wrap ((i : Int) + 1) = ((i + 1 : Nat) : Int) := by rw [i64In (by omega) (by omega)]; rfl
    have hb : acc + inT x ≤ acc + 1000001 := by omega
    have w3 : IntKind.i64.wrap ((acc : Int) + ((inT x : Nat) : Int)) = ((acc + inT x : Nat) : Int) := by
      rw [i64In (by omega) (by omega)]; omega
    have nx := ih (i + 1) (acc + inT x) (by omega) (by clear w3; omega)
    rw [q2]
    refine good_of_tree names (sb_tree l.length (encTs l) i (acc : Nat) (inL x).1 (inL x).2.1 (inL x).2.2 (inT x : Nat)) ?_
    simp only [sbTree, Tree.ok, Int.toNat_natCast, c4, c5, isPs, psLen, psSz, psCells, inB, w2, w3, cond_false]
    simp only [sumIn] at nx ⊢
    rw [show acc + (inT x + sumIn (l.drop (i + 1))) = acc + inT x + sumIn (l.drop (i + 1)) by omega]
    exact ⟨fun _ => ⟨by simp [hiI], by decide, trivial, inner x hm, by simp [hiI], by decide, trivial, trivial, nx⟩, fun h => absurd hiI (by simpa using h)⟩

theorem deep_loop {l : List Th} (hil : l.length ≤ 1000000) (hc : ∀ x ∈ l, cost x ≤ 1000000) (inner : ∀ x ∈ l, Does Tryd.prog envM 18 [.p (.ps (inL x).1 (inL x).2.1 (inL x).2.2)] [] (sI .i64 (inT x : Nat)) []) :
    ∀ (r i : Nat) (acc : Nat), i + r = l.length → acc + r * 1000001 ≤ 10000000000000 → Am.Good Tryd.prog envM (bodyCfg Tryd.prog envM 18 0 [.p (.ps l.length 6 (encTs l)), sI .i64 (acc : Nat), sI .i64 i] [] 0 44) (.ret (sI .i64 (max acc (maxIn (l.drop i)) : Nat)) []) := by
  intro r
  induction r with
  | zero =>
    intro i acc hr _
    have hiI : ¬ (i : Int) < (l.length : Int) := by omega
    rw [List.drop_eq_nil_of_le (by omega)]
    refine good_of_tree names (db_tree l.length (encTs l) i (acc : Nat) 0 0 [] 0) ?_
    simp only [dbTree, Tree.ok, sumIn, maxIn, Nat.add_zero, Nat.max_zero]
    exact ⟨fun h => absurd (by simpa using h) hiI, fun _ => trivial⟩
  | succ r ih =>
    intro i acc hr hacc
    obtain ⟨x, hg⟩ : ∃ x, l[i]? = some x := ⟨l[i]'(by omega), List.getElem?_eq_getElem (by omega)⟩
    have hm := List.mem_of_getElem? hg
    have hcx := hc x hm
    have hci := inT_cost x
    have hiI : (i : Int) < (l.length : Int) := by omega
    obtain ⟨q1, q2⟩ := costs_drop hg
    have c4 := encTs_at hg 4 (by omega)
    have c5 := encTs_at hg 5 (by omega)
    rw [(encT_in x).1] at c4
    rw [(encT_in x).2] at c5
    have w2 : IntKind.i64.wrap ((i : Int) + 1) = ((i + 1 : Nat) : Int) := by rw [i64In (by omega) (by omega)]; rfl
    have hb : max acc (1 + inT x) ≤ acc + 1000001 := Nat.max_le.2 ⟨by omega, by omega⟩
    have w3 : Max.max (acc : Int) (IntKind.i64.wrap (1 + ((inT x : Nat) : Int))) = ((max acc (1 + inT x) : Nat) : Int) := by
      rw [i64In (by omega) (by omega)]; omega
    have nx := ih (i + 1) (max acc (1 + inT x)) (by omega) (by clear w3; omega)
    rw [q2]
    refine good_of_tree names (db_tree l.length (encTs l) i (acc : Nat) (inL x).1 (inL x).2.1 (inL x).2.2 (inT x : Nat)) ?_
    simp only [dbTree, Tree.ok, Int.toNat_natCast, c4, c5, isPs, psLen, psSz, psCells, inB, w2, w3, cond_false]
    simp only [maxIn] at nx ⊢
    rw [show max acc (max (1 + inT x) (maxIn (l.drop (i + 1)))) = max (max acc (1 + inT x)) (maxIn (l.drop (i + 1))) by omega]
    exact ⟨fun _ => ⟨by simp [hiI], by decide, trivial, inner x hm, by simp [hiI], by decide, trivial, trivial, nx⟩, fun h => absurd hiI (by simpa using h)⟩

theorem size_does : ∀ (N : Nat) (l : List Th), costs l ≤ N → l.length ≤ 1000000 → (∀ x ∈ l, cost x ≤ 1000000) → Does Tryd.prog envM 17 [.p (.ps l.length 6 (encTs l))] [] (sI .i64 (l.length + sumIn l : Nat)) []
  | N, l, hN, hil, hc => by
    refine does_of_tree names (sz_tree l.length (encTs l)) ?_
    have h := size_loop hil hc (fun x hx => ?_) l.length 0 l.length (by omega) (by omega)
    · exact h
    · have hcx := costs_mem hx
      have hc1 := hc _ hx
      cases x with
      | out k => exact nilS
      | fin => exact nilS
      | loop y =>
        simp only [cost] at hcx hc1
        match N, hN with
        | 0, hN => omega
        | N + 1, hN =>
          have := size_does N [y] (by simp only [costs]; omega) (by simp) (fun z hz => by
            obtain rfl := List.mem_singleton.1 hz
            omega)
          simp only [encTs, List.append_nil, sumIn, List.length_singleton, Nat.add_zero] at this
          exact this

theorem deep_does : ∀ (N : Nat) (l : List Th), costs l ≤ N → l.length ≤ 1000000 → (∀ x ∈ l, cost x ≤ 1000000) → Does Tryd.prog envM 18 [.p (.ps l.length 6 (encTs l))] [] (sI .i64 (maxIn l : Nat)) []
  | N, l, hN, hil, hc => by
    refine does_of_tree names (dp_tree l.length (encTs l)) ?_
    have h := deep_loop hil hc (fun x hx => ?_) l.length 0 0 (by omega) (by omega)
    · rw [Nat.zero_max] at h
      exact h
    · have hcx := costs_mem hx
      have hc1 := hc _ hx
      cases x with
      | out k => exact nilD
      | fin => exact nilD
      | loop y =>
        simp only [cost] at hcx hc1
        match N, hN with
        | 0, hN => omega
        | N + 1, hN =>
          have := deep_does N [y] (by simp only [costs]; omega) (by simp) (fun z hz => by
            obtain rfl := List.mem_singleton.1 hz
            omega)
          simp only [encTs, List.append_nil, maxIn, List.length_singleton, Nat.max_zero] at this
          exact this

end Go.Proofs.YtiphaojaolcidaaDoor.N
