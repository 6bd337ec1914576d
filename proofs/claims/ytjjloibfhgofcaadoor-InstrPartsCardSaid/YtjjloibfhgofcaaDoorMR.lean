/-
  instr.Text: the text of a list.
  The check that the law is awake.
  How many instructions a list has, up to a bound.
-/
import Derived.Test.YtjjloibfhgofcaaDoorMQ

section
set_option linter.unusedVariables false
set_option linter.unusedSimpArgs false
namespace Go.Proofs.YtjjloibfhgofcaaDoor.N
open Go Go.Am

def txC (_l : List Ins) (s : ByteArray) (X : List AV) (f : FuncId) (_ : List AV) (m : Mem) : Option (AV × Mem) := cond (Nat.beq f 35) (match m with | [c, _] => some (.p (.sc (.string s)), [c, .ob .opq []]) | _ => none) (cond (Nat.beq f 34) (some (.tup [], [.ob (.gr 83 false) [.mp 0 0, .ms 1 0 X.length 1 none], .ob (.gr 5 true) X])) none)
def tzC (f : FuncId) (_ : List AV) (m : Mem) : Option (AV × Mem) := cond (Nat.beq f 35) (some (.p (.sc (.string (ByteArray.mk #[]))), m)) (cond (Nat.beq f 34) (some (.tup [], m)) none)
/- str: 8 steps -/
noncomputable def strOrc : Orc := orcL noCall noLed [] [] [(35, 0, 0)]
def strSc : Sc := .fin
noncomputable def strTree (_x : PV) (_X : List AV) : Tree :=
  (.must ((List.take (↑(AV.p _x :: _X).length : Int).toNat (AV.p _x :: _X)).all isU8A && (decide (0 < (↑(AV.p _x :: _X).length : Int)) && ((↑(AV.p _x :: _X).length : Int).toNat.ble (AV.p _x :: _X).length && (↑(AV.p _x :: _X).length : Int).toNat.ble lim)) && true && true && true)
   (.must true
    (.out (Out.ret (AV.p (PV.sc (Value.string (ByteArray.mk (List.map byteA (List.take (↑(AV.p _x :: _X).length : Int).toNat (AV.p _x :: _X))).toArray)))) [Blk.ob (ObK.gr 83 false) [AV.mp 0 0, AV.ms 1 0 (AV.p _x :: _X).length 1 Option.none], Blk.ob ObK.opq []]))))
theorem str_tree (_x : PV) (_X : List AV) : growF Tryd.prog envP strOrc 1000000 35 ([AV.mp 0 0]) ([Blk.ob (ObK.gr 83 false) [AV.mp 0 0, AV.ms 1 0 (AV.p _x :: _X).length 1 Option.none], Blk.ob (ObK.gr 5 true) (AV.p _x :: _X)]) strSc = strTree _x _X := by kernel_rfl

/- stz: 8 steps -/
noncomputable def stzOrc : Orc := orcL noCall noLed [] [] []
def stzSc : Sc := .fin
noncomputable def stzTree : Tree :=
  (.out (Out.ret (AV.p (PV.sc (Value.string ByteArray.empty))) [Blk.ob (ObK.gr 83 false) [AV.p (PV.sc (Value.pointer Option.none)), AV.os Option.none 0 0 []]]))
theorem stz_tree : growF Tryd.prog envP stzOrc 1000000 35 ([AV.mp 0 0]) ([Blk.ob (ObK.gr 83 false) [AV.p (PV.sc (Value.pointer Option.none)), AV.os Option.none 0 0 []]]) stzSc = stzTree := by kernel_rfl

/- txt: 20 steps -/
noncomputable def txtOrc (l : List Ins) (_s : ByteArray) (_X : List AV) : Orc := orcL (txC l _s _X) (txC l _s _X) [] [] []
def txtSc : Sc := .fin
noncomputable def txtTree (l : List Ins) (_s : ByteArray) (_X : List AV) : Tree :=
  (.call ⟨34, [AV.mp 0 0, AV.p (PV.ps l.length 8 (encL l))], [Blk.ob (ObK.gr 83 false) [AV.p (PV.sc (Value.pointer Option.none)), AV.os Option.none 0 0 []]], AV.tup [], [Blk.ob (ObK.gr 83 false) [AV.mp 0 0, AV.ms 1 0 _X.length 1 Option.none], Blk.ob (ObK.gr 5 true) _X]⟩
   (.call ⟨35, [AV.mp 0 0], [Blk.ob (ObK.gr 83 false) [AV.mp 0 0, AV.ms 1 0 _X.length 1 Option.none], Blk.ob (ObK.gr 5 true) (List.map keepP (List.map keepP _X))], AV.p (PV.sc (Value.string _s)), [Blk.ob (ObK.gr 83 false) [AV.mp 0 0, AV.ms 1 0 _X.length 1 Option.none], Blk.ob ObK.opq []]⟩
    (.out (Out.ret (AV.p (PV.sc (Value.string _s))) []))))
theorem txt_tree (l : List Ins) (_s : ByteArray) (_X : List AV) : growF Tryd.prog envP (txtOrc l _s _X) 1000000 18 ([aL l]) ([]) txtSc = txtTree l _s _X := by kernel_rfl

/- txz: 20 steps -/
noncomputable def txzOrc : Orc := orcL tzC tzC [] [] []
def txzSc : Sc := .fin
noncomputable def txzTree : Tree :=
  (.call ⟨34, [AV.mp 0 0, AV.p (PV.ps 0 8 [])], [Blk.ob (ObK.gr 83 false) [AV.p (PV.sc (Value.pointer Option.none)), AV.os Option.none 0 0 []]], AV.tup [], [Blk.ob (ObK.gr 83 false) [AV.p (PV.sc (Value.pointer Option.none)), AV.os Option.none 0 0 []]]⟩
   (.call ⟨35, [AV.mp 0 0], [Blk.ob (ObK.gr 83 false) [AV.p (PV.sc (Value.pointer Option.none)), AV.os Option.none 0 0 []]], AV.p (PV.sc (Value.string (ByteArray.mk #[]))), [Blk.ob (ObK.gr 83 false) [AV.p (PV.sc (Value.pointer Option.none)), AV.os Option.none 0 0 []]]⟩
    (.out (Out.ret (AV.p (PV.sc (Value.string (ByteArray.mk #[])))) []))))
theorem txz_tree : growF Tryd.prog envP txzOrc 1000000 18 ([aL []]) ([]) txzSc = txzTree := by kernel_rfl


theorem btA_byte (l : List UInt8) : (btA l).map byteA = l := by
  induction l with
  | nil => rfl
  | cons b l ih =>
    have h : byteA (.p (ofByte b)) = b := by simp [byteA, Am.byteOf, ofByte]
    simp only [btA, List.map_cons, List.map_map, h] at ih ⊢
    rw [ih]

theorem btA_u8 (l : List UInt8) : (btA l).all isU8A = true := by
  simp only [btA, List.all_map, List.all_eq_true, Function.comp]
  intro b _
  have := b.toNat_lt
  simp [isU8A, isU8, ofByte]
  omega

theorem str_does (tx : List UInt8) (h0 : tx ≠ []) (h : tx.length ≤ 1000000000) : Does Tryd.prog envP 35 [.mp 0 0] [bldB 0 1 tx, bufB tx] (sS tx) [bldB 0 1 tx, .ob .opq []] := by
  have hlim : lim = 70368744177664 := rfl
  obtain ⟨b, bs, rfl⟩ := List.exists_cons_of_ne_nil h0
  have hu := btA_u8 (b :: bs)
  have hb := btA_byte (b :: bs)
  have hl := btA_length (b :: bs)
  have ht : (btA (b :: bs)).take (b :: bs).length = btA (b :: bs) := by rw [← hl]; exact btA_take _
  refine does_of_tree names (str_tree (ofByte b) (btA bs)) ?_
  have e : (AV.p (ofByte b) :: btA bs) = btA (b :: bs) := rfl
  simp only [strTree, Tree.ok, e, Int.toNat_natCast, hl, ht, hu, hb]
  refine ⟨?_, trivial, ?_⟩
  rotate_left
  · have eb : bldB 0 1 (b :: bs) = .ob (.gr 83 false) [AV.mp 0 0, AV.ms 1 0 (b :: bs).length 1 none] := by rw [← hl]
    rw [eb]
  simp only [List.length_cons] at h ⊢
  simp only [Bool.true_and, Bool.and_true, Bool.and_eq_true, decide_eq_true_eq, Nat.ble_eq]
  omega

theorem text_none : Does Tryd.prog envP 18 [aL []] [] (sS (txtL [])) [] := by
  refine does_of_tree names txz_tree ?_
  simp only [txzTree, Tree.ok]
  exact ⟨writes_none, does_of_tree names stz_tree rfl, rfl⟩

theorem text_some {x : Ins} {l : List Ins} (hw : wfL (x :: l)) (hz : nameB (Ins.op x) ≠ []) (ht : 1000 * cntL (x :: l) ≤ maxT) : Does Tryd.prog envP 18 [aL (x :: l)] [] (sS (txtL (x :: l))) [] := by
  have hl := txtL_len (x :: l)
  have hmax : maxT = 1000000000 := rfl
  have hne : txtL (x :: l) ≠ [] := by
    obtain ⟨op, r, a, b, nn, tg, ll, le⟩ := x
    intro e
    simp only [txtL, txtI, List.append_eq_nil_iff] at e
    exact hz e.1.1
  refine does_of_tree names (txt_tree (x :: l) ⟨(txtL (x :: l)).toArray⟩ (btA (txtL (x :: l)))) ?_
  simp only [txtTree, Tree.ok, btA_keep]
  exact ⟨writes_fresh hw hz ht, str_does _ hne (by omega), trivial⟩

end Go.Proofs.YtjjloibfhgofcaaDoor.N
end

section
set_option linter.unusedVariables false
set_option linter.unusedSimpArgs false
namespace Go.Proofs.YtjjloibfhgofcaaDoor.N
open Go Go.Am

def awC (f : FuncId) (args : List AV) (m : Mem) : Option (AV × Mem) := cond (Nat.beq f 32) (match args with
  | [.p (.sc (.int _ n))] => some (.p (.sc (.string (nm n))), m)
  | _ => none) (cond (Nat.beq f 63) (match args with
  | [.p (.sc (.int _ n))] => some (useV n, m)
  | _ => none) none)
def btL (l : List UInt8) : List AV := l.map fun c => .p (ofByte c)
def awL (f : FuncId) (args : List AV) (m : Mem) : Option (AV × Mem) := cond (Nat.beq f 69) (some (.p (.sc (.string ⟨#[51]⟩)), m)) (cond (Nat.beq f 68) (match args, m with
  | [_, .p (.sc (.string z))], [.ob (.gr t q) [x, .ms _ _ _ _ _], .ob (.gr u p) Y] => some (.tup [sI .i64 z.data.toList.length, .p (.sc .nilIface)], [.ob (.gr t q) [x, .ms 2 0 ((Y ++ btL z.data.toList).length) 1 none], .dead, .ob (.gr u p) (Y ++ btL z.data.toList)])
  | _, _ => none) (awC f args m))
/- sml: 16 steps -/
noncomputable def smlOrc : Orc := orcL noCall noLed [] [] []
def smlSc : Sc := .fin
noncomputable def smlTree : Tree :=
  (.out (Out.ret (AV.os Option.none 1 8 [PV.sc (Value.int IntKind.i64 4), PV.sc (Value.int IntKind.i64 0), PV.sc (Value.int IntKind.u32 0), PV.sc (Value.int IntKind.u32 0), PV.sc (Value.int IntKind.i32 0), PV.ps 0 0 [], PV.ps 1 8 [PV.sc (Value.int IntKind.i64 32), PV.sc (Value.int IntKind.i64 0), PV.sc (Value.int IntKind.u32 3), PV.sc (Value.int IntKind.u32 0), PV.sc (Value.int IntKind.i32 0), PV.ps 0 0 [], PV.ps 0 0 [], PV.ps 0 0 []], PV.ps 1 8 [PV.sc (Value.int IntKind.i64 1), PV.sc (Value.int IntKind.i64 0), PV.sc (Value.int IntKind.u32 0), PV.sc (Value.int IntKind.u32 0), PV.sc (Value.int IntKind.i32 0), PV.ps 0 0 [], PV.ps 0 0 [], PV.ps 0 0 []]]) []))
theorem sml_tree : growF Tryd.prog envP smlOrc 1000000 33 ([]) ([]) smlSc = smlTree := by kernel_rfl

/- fm3: 66 steps -/
noncomputable def fm3Orc : Orc := orcL noCall noLed [] [] []
def fm3Sc : Sc := .fin
noncomputable def fm3Tree : Tree :=
  (.out (Out.ret (AV.p (PV.sc (Value.string ((ByteArray.mk #[48, 49, 50, 51, 52, 53, 54, 55, 56, 57, 97, 98, 99, 100, 101, 102, 103, 104, 105, 106, 107, 108, 109, 110, 111, 112, 113, 114, 115, 116, 117, 118, 119, 120, 121, 122]).extract 3 4)))) []))
theorem fm3_tree : growF Tryd.prog envP fm3Orc 1000000 69 ([sI IntKind.i64 3, sI IntKind.i64 10]) ([]) fm3Sc = fm3Tree := by kernel_rfl

/- awk: 2072 steps -/
noncomputable def awkOrc : Orc := orcL awC awL [] [] []
def awkSc : Sc := .fin
noncomputable def awkTree : Tree :=
  (.call ⟨32, [AV.p (PV.sc (Value.int IntKind.i64 17))], [], AV.p (PV.sc (Value.string (nm 17))), []⟩
   (.call ⟨32, [AV.p (PV.sc (Value.int IntKind.i64 4))], [], AV.p (PV.sc (Value.string (nm 4))), []⟩
    (.call ⟨63, [AV.p (PV.sc (Value.int IntKind.i64 4))], [], AV.agg [AV.p (PV.sc (Value.bool true)), AV.p (PV.sc (Value.bool true)), AV.p (PV.sc (Value.bool false)), AV.p (PV.sc (Value.bool false)), AV.p (PV.sc (Value.bool false)), AV.p (PV.sc (Value.bool false))], []⟩
     (.call ⟨32, [AV.p (PV.sc (Value.int IntKind.i64 32))], [], AV.p (PV.sc (Value.string (nm 32))), []⟩
      (.call ⟨63, [AV.p (PV.sc (Value.int IntKind.i64 32))], [], AV.agg [AV.p (PV.sc (Value.bool false)), AV.p (PV.sc (Value.bool false)), AV.p (PV.sc (Value.bool true)), AV.p (PV.sc (Value.bool false)), AV.p (PV.sc (Value.bool false)), AV.p (PV.sc (Value.bool false))], []⟩
       (.call ⟨69, [AV.p (PV.sc (Value.int IntKind.i64 3)), AV.p (PV.sc (Value.int IntKind.i64 10))], [], AV.p (PV.sc (Value.string (ByteArray.mk #[51]))), []⟩
        (.call ⟨32, [AV.p (PV.sc (Value.int IntKind.i64 1))], [], AV.p (PV.sc (Value.string (nm 1))), []⟩
         (.call ⟨63, [AV.p (PV.sc (Value.int IntKind.i64 1))], [], AV.agg [AV.p (PV.sc (Value.bool false)), AV.p (PV.sc (Value.bool false)), AV.p (PV.sc (Value.bool false)), AV.p (PV.sc (Value.bool false)), AV.p (PV.sc (Value.bool false)), AV.p (PV.sc (Value.bool false))], []⟩
          (.call ⟨63, [AV.p (PV.sc (Value.int IntKind.i64 4))], [], AV.agg [AV.p (PV.sc (Value.bool true)), AV.p (PV.sc (Value.bool true)), AV.p (PV.sc (Value.bool false)), AV.p (PV.sc (Value.bool false)), AV.p (PV.sc (Value.bool false)), AV.p (PV.sc (Value.bool false))], []⟩
           (.call ⟨32, [AV.p (PV.sc (Value.int IntKind.i64 4))], [], AV.p (PV.sc (Value.string (nm 4))), []⟩
            (.call ⟨63, [AV.p (PV.sc (Value.int IntKind.i64 1))], [], AV.agg [AV.p (PV.sc (Value.bool false)), AV.p (PV.sc (Value.bool false)), AV.p (PV.sc (Value.bool false)), AV.p (PV.sc (Value.bool false)), AV.p (PV.sc (Value.bool false)), AV.p (PV.sc (Value.bool false))], []⟩
             (.call ⟨32, [AV.p (PV.sc (Value.int IntKind.i64 1))], [], AV.p (PV.sc (Value.string (nm 1))), []⟩
              (.call ⟨63, [AV.p (PV.sc (Value.int IntKind.i64 32))], [], AV.agg [AV.p (PV.sc (Value.bool false)), AV.p (PV.sc (Value.bool false)), AV.p (PV.sc (Value.bool true)), AV.p (PV.sc (Value.bool false)), AV.p (PV.sc (Value.bool false)), AV.p (PV.sc (Value.bool false))], []⟩
               (.call ⟨32, [AV.p (PV.sc (Value.int IntKind.i64 32))], [], AV.p (PV.sc (Value.string (nm 32))), []⟩
                (.out (Out.ret (AV.p (PV.sc (Value.bool true))) []))))))))))))))))
theorem awk_tree : growF Tryd.prog envP awkOrc 1000000 16 ([]) ([]) awkSc = awkTree := by kernel_rfl


theorem ext3 : (ByteArray.mk #[48, 49, 50, 51, 52, 53, 54, 55, 56, 57, 97, 98, 99, 100, 101, 102, 103, 104, 105, 106, 107, 108, 109, 110, 111, 112, 113, 114, 115, 116, 117, 118, 119, 120, 121, 122]).extract 3 4 = ByteArray.mk #[51] := by kernel_rfl

theorem fm3_does : Does Tryd.prog envP 69 [sI .i64 3, sI .i64 10] [] (.p (.sc (.string ⟨#[51]⟩))) [] := does_of_tree names fm3_tree (by simp only [fm3Tree, Tree.ok, ext3])

theorem awakeP_does : Does Tryd.prog envP 16 [] [] (sB true) [] := by
  have hn : ∀ op : Int, Does Tryd.prog envP 32 [AV.p (PV.sc (Value.int IntKind.i64 op))] [] (AV.p (PV.sc (Value.string (nm op)))) [] := fun op => Does.toP (name_does op)
  have hu : ∀ op : Int, Does Tryd.prog envP 63 [AV.p (PV.sc (Value.int IntKind.i64 op))] [] (useV op) [] := fun op => Does.toP (uses_does op)
  exact does_of_tree names awk_tree ⟨hn 17, hn 4, hu 4, hn 32, hu 32, fm3_does, hn 1, hu 1, hu 4, hn 4, hu 1, hn 1, hu 32, hn 32, rfl⟩

end Go.Proofs.YtjjloibfhgofcaaDoor.N
end

section
set_option linter.unusedVariables false
set_option linter.unusedSimpArgs false
namespace Go.Proofs.YtjjloibfhgofcaaDoor.N
open Go Go.Am

def insCall (_ : List Ins) (_ _ _ : Int) (R : List AV → Int) (f : FuncId) (args : List AV) (m : Mem) : Option (AV × Mem) := cond (Nat.beq f 17) (some (sI .i64 (R args), m)) none
/- ins: 15 steps -/
noncomputable def insOrc : Orc := orcL noCall noLed [(17, 0)] [] []
def insSc : Sc := .fin
noncomputable def insTree (l : List Ins) (most : Int) : Tree :=
  (.at (bodyCfg Tryd.prog envP 17 0 [AV.p (PV.ps l.length 8 (encL l)), AV.p (PV.sc (Value.int IntKind.i64 most)), AV.p (PV.sc (Value.int IntKind.i64 0)), AV.p (PV.sc (Value.int IntKind.i64 0))] ([]) 0 58))
theorem ins_tree (l : List Ins) (most : Int) : growF Tryd.prog envP insOrc 1000000 17 ([aL l, sI IntKind.i64 most]) ([]) insSc = insTree l most := by kernel_rfl

/- insl: 133 steps -/
noncomputable def inslOrc (l : List Ins) (most : Int) (n : Int) (i : Int) (R : List AV → Int) : Orc := orcL (insCall l most n i R) noLed [(17, 0)] [(17, 4, 5), (17, 0, 1), (17, 0, 2), (17, 0, 3)] [(17, 6, 4), (17, 6, 6), (17, 8, 3), (17, 8, 5), (17, 10, 3), (17, 10, 5)]
def inslSc : Sc := (.fork (.fork (.fork .fin (.no .fin)) .fin) (.lit .fin))
noncomputable def inslTree (l : List Ins) (most : Int) (n : Int) (i : Int) (R : List AV → Int) : Tree :=
  (.test (decide (i < (↑l.length : Int)))
   (.test (decide (n ≤ most))
    (.must (inB i l.length && true && true)
     (.must (isPs ((encL l).getD (i.toNat * 8 + 5) PV.bad) && true)
      (.test (decide (IntKind.i64.wrap (IntKind.i64.wrap (n + 1) + bif true then Min.min (↑(psLen ((encL l).getD (i.toNat * 8 + 5) PV.bad)) : Int) most else Max.max (↑(psLen ((encL l).getD (i.toNat * 8 + 5) PV.bad)) : Int) most) ≤ most))
       (.must (inB i l.length && true && true)
        (.must (isPs ((encL l).getD (i.toNat * 8 + 6) PV.bad) && true)
         (.call ⟨17, [AV.p (PV.ps (psLen ((encL l).getD (i.toNat * 8 + 6) PV.bad)) (psSz ((encL l).getD (i.toNat * 8 + 6) PV.bad)) (psCells ((encL l).getD (i.toNat * 8 + 6) PV.bad))), AV.p (PV.sc (Value.int IntKind.i64 (IntKind.i64.wrap (most - IntKind.i64.wrap (IntKind.i64.wrap (n + 1) + bif true then Min.min (↑(psLen ((encL l).getD (i.toNat * 8 + 5) PV.bad)) : Int) most else Max.max (↑(psLen ((encL l).getD (i.toNat * 8 + 5) PV.bad)) : Int) most)))))], [], AV.p (PV.sc (Value.int IntKind.i64 (R [AV.p (PV.ps (psLen ((encL l).getD (i.toNat * 8 + 6) PV.bad)) (psSz ((encL l).getD (i.toNat * 8 + 6) PV.bad)) (psCells ((encL l).getD (i.toNat * 8 + 6) PV.bad))), AV.p (PV.sc (Value.int IntKind.i64 (IntKind.i64.wrap (most - IntKind.i64.wrap (IntKind.i64.wrap (n + 1) + bif true then Min.min (↑(psLen ((encL l).getD (i.toNat * 8 + 5) PV.bad)) : Int) most else Max.max (↑(psLen ((encL l).getD (i.toNat * 8 + 5) PV.bad)) : Int) most)))))]))), []⟩
          (.test (decide (IntKind.i64.wrap (IntKind.i64.wrap (IntKind.i64.wrap (n + 1) + bif true then Min.min (↑(psLen ((encL l).getD (i.toNat * 8 + 5) PV.bad)) : Int) most else Max.max (↑(psLen ((encL l).getD (i.toNat * 8 + 5) PV.bad)) : Int) most) + R [AV.p (PV.ps (psLen ((encL l).getD (i.toNat * 8 + 6) PV.bad)) (psSz ((encL l).getD (i.toNat * 8 + 6) PV.bad)) (psCells ((encL l).getD (i.toNat * 8 + 6) PV.bad))), AV.p (PV.sc (Value.int IntKind.i64 (IntKind.i64.wrap (most - IntKind.i64.wrap (IntKind.i64.wrap (n + 1) + bif true then Min.min (↑(psLen ((encL l).getD (i.toNat * 8 + 5) PV.bad)) : Int) most else Max.max (↑(psLen ((encL l).getD (i.toNat * 8 + 5) PV.bad)) : Int) most)))))]) ≤ most))
           (.must (inB i l.length && true && true)
            (.must (isPs ((encL l).getD (i.toNat * 8 + 7) PV.bad) && true)
             (.call ⟨17, [AV.p (PV.ps (psLen ((encL l).getD (i.toNat * 8 + 7) PV.bad)) (psSz ((encL l).getD (i.toNat * 8 + 7) PV.bad)) (psCells ((encL l).getD (i.toNat * 8 + 7) PV.bad))), AV.p (PV.sc (Value.int IntKind.i64 (IntKind.i64.wrap (most - IntKind.i64.wrap (IntKind.i64.wrap (IntKind.i64.wrap (n + 1) + bif true then Min.min (↑(psLen ((encL l).getD (i.toNat * 8 + 5) PV.bad)) : Int) most else Max.max (↑(psLen ((encL l).getD (i.toNat * 8 + 5) PV.bad)) : Int) most) + R [AV.p (PV.ps (psLen ((encL l).getD (i.toNat * 8 + 6) PV.bad)) (psSz ((encL l).getD (i.toNat * 8 + 6) PV.bad)) (psCells ((encL l).getD (i.toNat * 8 + 6) PV.bad))), AV.p (PV.sc (Value.int IntKind.i64 (IntKind.i64.wrap (most - IntKind.i64.wrap (IntKind.i64.wrap (n + 1) + bif true then Min.min (↑(psLen ((encL l).getD (i.toNat * 8 + 5) PV.bad)) : Int) most else Max.max (↑(psLen ((encL l).getD (i.toNat * 8 + 5) PV.bad)) : Int) most)))))])))))], [], AV.p (PV.sc (Value.int IntKind.i64 (R [AV.p (PV.ps (psLen ((encL l).getD (i.toNat * 8 + 7) PV.bad)) (psSz ((encL l).getD (i.toNat * 8 + 7) PV.bad)) (psCells ((encL l).getD (i.toNat * 8 + 7) PV.bad))), AV.p (PV.sc (Value.int IntKind.i64 (IntKind.i64.wrap (most - IntKind.i64.wrap (IntKind.i64.wrap (IntKind.i64.wrap (n + 1) + bif true then Min.min (↑(psLen ((encL l).getD (i.toNat * 8 + 5) PV.bad)) : Int) most else Max.max (↑(psLen ((encL l).getD (i.toNat * 8 + 5) PV.bad)) : Int) most) + R [AV.p (PV.ps (psLen ((encL l).getD (i.toNat * 8 + 6) PV.bad)) (psSz ((encL l).getD (i.toNat * 8 + 6) PV.bad)) (psCells ((encL l).getD (i.toNat * 8 + 6) PV.bad))), AV.p (PV.sc (Value.int IntKind.i64 (IntKind.i64.wrap (most - IntKind.i64.wrap (IntKind.i64.wrap (n + 1) + bif true then Min.min (↑(psLen ((encL l).getD (i.toNat * 8 + 5) PV.bad)) : Int) most else Max.max (↑(psLen ((encL l).getD (i.toNat * 8 + 5) PV.bad)) : Int) most)))))])))))]))), []⟩
              (.at (bodyCfg Tryd.prog envP 17 0 [AV.p (PV.ps l.length 8 (encL l)), AV.p (PV.sc (Value.int IntKind.i64 most)), AV.p (PV.sc (Value.int IntKind.i64 (IntKind.i64.wrap (IntKind.i64.wrap (IntKind.i64.wrap (IntKind.i64.wrap (n + 1) + bif true then Min.min (↑(psLen ((encL l).getD (i.toNat * 8 + 5) PV.bad)) : Int) most else Max.max (↑(psLen ((encL l).getD (i.toNat * 8 + 5) PV.bad)) : Int) most) + R [AV.p (PV.ps (psLen ((encL l).getD (i.toNat * 8 + 6) PV.bad)) (psSz ((encL l).getD (i.toNat * 8 + 6) PV.bad)) (psCells ((encL l).getD (i.toNat * 8 + 6) PV.bad))), AV.p (PV.sc (Value.int IntKind.i64 (IntKind.i64.wrap (most - IntKind.i64.wrap (IntKind.i64.wrap (n + 1) + bif true then Min.min (↑(psLen ((encL l).getD (i.toNat * 8 + 5) PV.bad)) : Int) most else Max.max (↑(psLen ((encL l).getD (i.toNat * 8 + 5) PV.bad)) : Int) most)))))]) + R [AV.p (PV.ps (psLen ((encL l).getD (i.toNat * 8 + 7) PV.bad)) (psSz ((encL l).getD (i.toNat * 8 + 7) PV.bad)) (psCells ((encL l).getD (i.toNat * 8 + 7) PV.bad))), AV.p (PV.sc (Value.int IntKind.i64 (IntKind.i64.wrap (most - IntKind.i64.wrap (IntKind.i64.wrap (IntKind.i64.wrap (n + 1) + bif true then Min.min (↑(psLen ((encL l).getD (i.toNat * 8 + 5) PV.bad)) : Int) most else Max.max (↑(psLen ((encL l).getD (i.toNat * 8 + 5) PV.bad)) : Int) most) + R [AV.p (PV.ps (psLen ((encL l).getD (i.toNat * 8 + 6) PV.bad)) (psSz ((encL l).getD (i.toNat * 8 + 6) PV.bad)) (psCells ((encL l).getD (i.toNat * 8 + 6) PV.bad))), AV.p (PV.sc (Value.int IntKind.i64 (IntKind.i64.wrap (most - IntKind.i64.wrap (IntKind.i64.wrap (n + 1) + bif true then Min.min (↑(psLen ((encL l).getD (i.toNat * 8 + 5) PV.bad)) : Int) most else Max.max (↑(psLen ((encL l).getD (i.toNat * 8 + 5) PV.bad)) : Int) most)))))])))))])))), AV.p (PV.sc (Value.int IntKind.i64 (IntKind.i64.wrap (i + 1))))] ([]) 0 58)))))
           (.at (bodyCfg Tryd.prog envP 17 0 [AV.p (PV.ps l.length 8 (encL l)), AV.p (PV.sc (Value.int IntKind.i64 most)), AV.p (PV.sc (Value.int IntKind.i64 (IntKind.i64.wrap (IntKind.i64.wrap (IntKind.i64.wrap (n + 1) + bif true then Min.min (↑(psLen ((encL l).getD (i.toNat * 8 + 5) PV.bad)) : Int) most else Max.max (↑(psLen ((encL l).getD (i.toNat * 8 + 5) PV.bad)) : Int) most) + R [AV.p (PV.ps (psLen ((encL l).getD (i.toNat * 8 + 6) PV.bad)) (psSz ((encL l).getD (i.toNat * 8 + 6) PV.bad)) (psCells ((encL l).getD (i.toNat * 8 + 6) PV.bad))), AV.p (PV.sc (Value.int IntKind.i64 (IntKind.i64.wrap (most - IntKind.i64.wrap (IntKind.i64.wrap (n + 1) + bif true then Min.min (↑(psLen ((encL l).getD (i.toNat * 8 + 5) PV.bad)) : Int) most else Max.max (↑(psLen ((encL l).getD (i.toNat * 8 + 5) PV.bad)) : Int) most)))))])))), AV.p (PV.sc (Value.int IntKind.i64 (IntKind.i64.wrap (i + 1))))] ([]) 0 58))))))
       (.must (!(decide (IntKind.i64.wrap (IntKind.i64.wrap (n + 1) + bif true then Min.min (↑(psLen ((encL l).getD (i.toNat * 8 + 5) PV.bad)) : Int) most else Max.max (↑(psLen ((encL l).getD (i.toNat * 8 + 5) PV.bad)) : Int) most) ≤ most)))
        (.at (bodyCfg Tryd.prog envP 17 0 [AV.p (PV.ps l.length 8 (encL l)), AV.p (PV.sc (Value.int IntKind.i64 most)), AV.p (PV.sc (Value.int IntKind.i64 (IntKind.i64.wrap (IntKind.i64.wrap (n + 1) + bif true then Min.min (↑(psLen ((encL l).getD (i.toNat * 8 + 5) PV.bad)) : Int) most else Max.max (↑(psLen ((encL l).getD (i.toNat * 8 + 5) PV.bad)) : Int) most)))), AV.p (PV.sc (Value.int IntKind.i64 (IntKind.i64.wrap (i + 1))))] ([]) 0 58))))))
    (.out (Out.ret (AV.p (PV.sc (Value.int IntKind.i64 n))) [])))
   (.out (Out.ret (AV.p (PV.sc (Value.int IntKind.i64 n))) [])))
theorem insl_tree (l : List Ins) (most : Int) (n : Int) (i : Int) (R : List AV → Int) : grow Tryd.prog envP (inslOrc l most n i R) 1000000 true (bodyCfg Tryd.prog envP 17 0 ([aL l, sI IntKind.i64 most, sI IntKind.i64 n, sI IntKind.i64 i]) ([]) 0 58) inslSc atEnd = inslTree l most n i R := by kernel_rfl


theorem instrs_loop (R : List AV → Int) (hR : ∀ l most, R [aL l, sI .i64 most] = insF l most 0) (l : List Ins) (most : Int) (h0 : 0 ≤ most) (hm : most ≤ 1000000000000) (hl : l.length ≤ maxLen)
    (IH : ∀ x ∈ l, ∀ m' : Int, 0 ≤ m' → m' ≤ most → Does Tryd.prog envP 17 [aL x.l, sI .i64 m'] [] (sI .i64 (insF x.l m' 0)) [] ∧ Does Tryd.prog envP 17 [aL x.e, sI .i64 m'] [] (sI .i64 (insF x.e m' 0)) []) :
    ∀ (r k : Nat) (n : Int), k + r = l.length → 0 ≤ n → n ≤ 2 * most + 1 → Am.Good Tryd.prog envP (bodyCfg Tryd.prog envP 17 0 [aL l, sI .i64 most, sI .i64 n, sI .i64 k] [] 0 58) (.ret (sI .i64 (insF (l.drop k) most n)) []) := by
  intro r
  induction r with
  | zero =>
    intro k n hk hn0 hn
    refine good_of_tree names (insl_tree l most n k R) ?_
    have h1 : l.drop k = [] := List.drop_eq_nil_of_le (by omega)
    have h2 : ¬ ((k : Int) < l.length) := by omega
    simp [inslTree, Tree.ok, h1, h2, insF]
  | succ r ih =>
    intro k n hk hn0 hn
    refine good_of_tree names (insl_tree l most n k R) ?_
    have hkl : k < l.length := by omega
    have hgx : l[k]? = some l[k] := List.getElem?_eq_getElem hkl
    have hmem : l[k] ∈ l := List.getElem_mem hkl
    have hd : l.drop k = l[k] :: l.drop (k + 1) := List.drop_eq_getElem_cons hkl
    rw [hd]
    generalize l[k] = x at *
    obtain ⟨op, rs, a, b, nn, tags, ll, le⟩ := x
    have hc := encL_getD hgx
    have c5 : (encL l).getD (k * 8 + 5) .bad = .ps tags.length 1 (encT .u32 tags) := hc 5 (by omega)
    have c6 : (encL l).getD (k * 8 + 6) .bad = .ps ll.length 8 (encL ll) := hc 6 (by omega)
    have c7 : (encL l).getD (k * 8 + 7) .bad = .ps le.length 8 (encL le) := hc 7 (by omega)
    have hML : maxLen = 9223372036854775807 := rfl
    have hw : IntKind.i64.wrap ((k : Int) + 1) = ((k + 1 : Nat) : Int) := by rw [i64In (by omega) (by omega)]; rfl
    have hw1 : IntKind.i64.wrap (n + 1) = n + 1 := i64In (by omega) (by omega)
    have hkI : (k : Int) < (l.length : Int) := by omega
    simp only [inslTree, Tree.ok, c5, c6, c7, psLen, psSz, psCells, isPs, Int.toNat_natCast, inB, cond_true, hw, hw1]
    refine ⟨fun _ => ⟨fun hnm => ⟨by simp [hkI], rfl, ?_⟩, fun hnm => ?_⟩, fun h => absurd hkI (by simpa using h)⟩
    · have hnm : n ≤ most := by simpa using hnm
      have hIH := IH _ hmem
      simp only [insF, if_pos hnm, insX, Ins.l, Ins.e] at hIH ⊢
      generalize hn1 : n + 1 + min (tags.length : Int) most = n1
      have hr1 : 0 ≤ n1 ∧ n1 ≤ 2 * most + 1 := by omega
      have hw2 : IntKind.i64.wrap n1 = n1 := i64In (by omega) (by omega)
      simp only [hw2]
      have hw3 : IntKind.i64.wrap (most - n1) = most - n1 := i64In (by omega) (by omega)
      simp only [hw3, hR]
      refine ⟨fun h1 => ?_, fun h1 => ?_⟩
      · have h1 : n1 ≤ most := by simpa using h1
        rw [if_pos h1]
        have hb := insF_range ll (most - n1) 0 (by omega) (by omega) (by omega)
        have hw4 : IntKind.i64.wrap (n1 + insF ll (most - n1) 0) = n1 + insF ll (most - n1) 0 := i64In (by omega) (by omega)
        refine ⟨by simp [hkI], rfl, (hIH (most - n1) (by omega) (by omega)).1, ?_⟩
        simp only [hw4]
        generalize hn2 : n1 + insF ll (most - n1) 0 = n2
        have hr2 : 0 ≤ n2 ∧ n2 ≤ 2 * most + 1 := by omega
        have hw5 : IntKind.i64.wrap (most - n2) = most - n2 := i64In (by omega) (by omega)
        simp only [hw5]
        refine ⟨fun h2 => ?_, fun h2 => ?_⟩
        · have h2 : n2 ≤ most := by simpa using h2
          rw [if_pos h2]
          have hb2 := insF_range le (most - n2) 0 (by omega) (by omega) (by omega)
          have hw6 : IntKind.i64.wrap (n2 + insF le (most - n2) 0) = n2 + insF le (most - n2) 0 := i64In (by omega) (by omega)
          refine ⟨by simp [hkI], rfl, (hIH (most - n2) (by omega) (by omega)).2, ?_⟩
          simp only [hw6]
          exact ih (k + 1) _ (by omega) (by omega) (by omega)
        · have h2 : ¬ n2 ≤ most := by simpa using h2
          rw [if_neg h2]
          exact ih (k + 1) n2 (by omega) (by omega) (by omega)
      · have h1 : ¬ n1 ≤ most := by simpa using h1
        rw [if_neg h1, if_neg h1]
        refine ⟨by simpa using h1, ?_⟩
        exact ih (k + 1) n1 (by omega) (by omega) (by omega)
    · have hnm : ¬ n ≤ most := by simpa using hnm
      simp only [insF, if_neg hnm]
theorem aL_inj {l m : List Ins} (h : aL l = aL m) : l = m := by
  simp only [AV.p.injEq, PV.ps.injEq] at h
  exact encL_inj h.2.2

open Classical in
noncomputable def insR (args : List AV) : Int := if h : ∃ l most, args = [aL l, sI .i64 most] then insF h.choose h.choose_spec.choose 0 else 0

theorem insR_eq (l : List Ins) (most : Int) : insR [aL l, sI .i64 most] = insF l most 0 := by
  have h : ∃ l' most', [aL l, sI .i64 most] = [aL l', sI .i64 most'] := ⟨l, most, rfl⟩
  have e := h.choose_spec.choose_spec
  unfold insR
  rw [dif_pos h]
  have e1 := aL_inj (List.cons.inj e).1
  have e2 : most = h.choose_spec.choose := by
    have := (List.cons.inj (List.cons.inj e).2).1
    simpa only [AV.p.injEq, PV.sc.injEq, Value.int.injEq, true_and] using this
  have e : (h.choose, h.choose_spec.choose) = (l, most) := by rw [Prod.mk.injEq]; exact ⟨e1.symm, e2.symm⟩
  exact congrArg (fun q : List Ins × Int => insF q.1 q.2 0) e

theorem instrs_does : ∀ (N : Nat) (l : List Ins) (most : Int), cntL l ≤ N → l.length ≤ maxLen → wfL l → 0 ≤ most → most ≤ 1000000000000 → Does Tryd.prog envP 17 [aL l, sI .i64 most] [] (sI .i64 (insF l most 0)) []
  | N, l, most, hN, hl, hw, h0, hm => by
    have IH : ∀ x ∈ l, ∀ m' : Int, 0 ≤ m' → m' ≤ most → Does Tryd.prog envP 17 [aL x.l, sI .i64 m'] [] (sI .i64 (insF x.l m' 0)) [] ∧ Does Tryd.prog envP 17 [aL x.e, sI .i64 m'] [] (sI .i64 (insF x.e m' 0)) [] := by
      intro x hx m' h0' hm'
      have hc := cntL_mem hx
      have hwx := wfL_mem hw hx
      obtain ⟨op, rs, a, b, nn, tags, ll, le⟩ := x
      simp only [cntI] at hc
      simp only [wfI] at hwx
      match N, hN with
      | 0, hN => omega
      | N + 1, hN => exact ⟨instrs_does N ll m' (by omega) hwx.2.2.2.2.2.2.1.1 hwx.2.2.2.2.2.2.1.2 h0' (by omega), instrs_does N le m' (by omega) hwx.2.2.2.2.2.2.2.1 hwx.2.2.2.2.2.2.2.2 h0' (by omega)⟩
    refine does_of_tree names (ins_tree l most) ?_
    have h := instrs_loop insR insR_eq l most h0 hm hl IH l.length 0 0 (by omega) (by omega) (by omega)
    rw [List.drop_zero] at h
    exact h


end Go.Proofs.YtjjloibfhgofcaaDoor.N
end
