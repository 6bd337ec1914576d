/-
  The document's check of instructions: what its parts tell, of any instructions.
-/
import Derived.Test.YtjjloibfhgofcaaDoorICI
import Derived.Test.YtjjloibfhgofcaaDoorInsD
namespace Go.Proofs.YtjjloibfhgofcaaDoor.N
open Go Go.Am

def coS (_l : List Ins) (_n : Int) (i : Nat) (_op _r _a _b _nn : Int) (_tg : List Int) (_ll _le : List Ins) (_R : List PV → Int) : FuncId → Nat → Nat → Option (AV → AV) := shapeAt [(28, 5, 1, sI .i64 ((i + 1 : Nat) : Int)), (29, 5, 1, sI .i64 ((i + 1 : Nat) : Int))]
def coL (_l : List Ins) (_n : Int) (_i : Nat) (_op _r _a _b _nn : Int) (_tg : List Int) (_ll _le : List Ins) (R : List PV → Int) (f : FuncId) (args : List AV) (m : Mem) : Option (AV × Mem) := match args with | [.p (.ps _ _ cs)] => cond (Nat.beq f 28 || Nat.beq f 29) (some (sI .i64 (R cs), m)) none | _ => none
def alS (_l : List Ins) (i : Nat) (op r a b nn : Int) (tg : List Int) (ll le : List Ins) (_ok : Bool) (_R : List PV → Bool) : FuncId → Nat → Nat → Option (AV → AV) := shapeAt [(27, 4, 1, sI .i64 ((i + 1 : Nat) : Int)), (30, 4, 1, sI .i64 ((i + 1 : Nat) : Int)), (27, 5, 3, aggI op r a b nn tg ll le), (27, 5, 11, aL ll), (27, 5, 20, aL le), (30, 5, 4, .p (.ps tg.length 1 (encT .u32 tg))), (30, 5, 12, aL ll), (30, 5, 20, aL le)]
def alC (_l : List Ins) (_i : Nat) (_op _r _a _b _nn : Int) (_tg : List Int) (_ll _le : List Ins) (ok : Bool) (R : List PV → Bool) (f : FuncId) (args : List AV) (m : Mem) : Option (AV × Mem) := match args with | [.p (.ps _ _ cs)] => cond (Nat.beq f 27 || Nat.beq f 30) (some (sB (R cs), m)) none | _ => cond (Nat.beq f 64) (some (sB ok, m)) none
def ckC (_l : List Ins) (a : Bool) (n d : Int) (t : Bool) (f : FuncId) (_ : List AV) (m : Mem) : Option (AV × Mem) := cond (Nat.beq f 27) (some (sB a, m)) (cond (Nat.beq f 28) (some (sI .i64 n, m)) (cond (Nat.beq f 29) (some (sI .i64 d, m)) (cond (Nat.beq f 30) (some (sB t, m)) none)))
/- rAl: 11 steps -/
noncomputable def rAlOrc : Orc := orcL noCall noLed [(27, 0)] [] []
def rAlSc : Sc := .fin
noncomputable def rAlTree (l : List Ins) : Tree :=
  (.at (bodyCfg Tryd.prog env 27 0 [AV.p (PV.ps l.length 8 (encL l)), AV.p (PV.sc (Value.int IntKind.i64 0))] ([]) 0 34))
theorem rAl_tree (l : List Ins) : growF Tryd.prog env rAlOrc 1000000 27 ([aL l]) ([]) rAlSc = rAlTree l := by kernel_rfl

/- rCo: 17 steps -/
noncomputable def rCoOrc : Orc := orcL noCall noLed [(28, 0)] [] []
def rCoSc : Sc := .fin
noncomputable def rCoTree (l : List Ins) : Tree :=
  (.at (bodyCfg Tryd.prog env 28 0 [AV.p (PV.ps l.length 8 (encL l)), AV.p (PV.sc (Value.int IntKind.i64 (↑l.length : Int))), AV.p (PV.sc (Value.int IntKind.i64 0))] ([]) 0 29))
theorem rCo_tree (l : List Ins) : growF Tryd.prog env rCoOrc 1000000 28 ([aL l]) ([]) rCoSc = rCoTree l := by kernel_rfl

/- rDe: 15 steps -/
noncomputable def rDeOrc : Orc := orcL noCall noLed [(29, 0)] [] []
def rDeSc : Sc := .fin
noncomputable def rDeTree (l : List Ins) : Tree :=
  (.at (bodyCfg Tryd.prog env 29 0 [AV.p (PV.ps l.length 8 (encL l)), AV.p (PV.sc (Value.int IntKind.i64 0)), AV.p (PV.sc (Value.int IntKind.i64 0))] ([]) 0 28))
theorem rDe_tree (l : List Ins) : growF Tryd.prog env rDeOrc 1000000 29 ([aL l]) ([]) rDeSc = rDeTree l := by kernel_rfl

/- rTa: 11 steps -/
noncomputable def rTaOrc : Orc := orcL noCall noLed [(30, 0)] [] []
def rTaSc : Sc := .fin
noncomputable def rTaTree (l : List Ins) : Tree :=
  (.at (bodyCfg Tryd.prog env 30 0 [AV.p (PV.ps l.length 8 (encL l)), AV.p (PV.sc (Value.int IntKind.i64 0))] ([]) 0 33))
theorem rTa_tree (l : List Ins) : growF Tryd.prog env rTaOrc 1000000 30 ([aL l]) ([]) rTaSc = rTaTree l := by kernel_rfl

/- lCo: 28 steps -/
noncomputable def lCoOrc (l : List Ins) (n : Int) (i : Nat) (op : Int) (r : Int) (a : Int) (b : Int) (nn : Int) (tg : List Int) (ll : List Ins) (le : List Ins) (R : List PV → Int) : Orc := orcS noCall (coL l n i op r a b nn tg ll le R) [(28, 0)] [(28, 0, 1)] [(28, 0, 2)] (coS l n i op r a b nn tg ll le R)
def lCoSc : Sc := .fin
noncomputable def lCoTree (l : List Ins) (n : Int) (i : Nat) (_op : Int) (_r : Int) (_a : Int) (_b : Int) (_nn : Int) (_tg : List Int) (_ll : List Ins) (_le : List Ins) (R : List PV → Int) : Tree :=
  (.test (decide ((↑i : Int) < (↑l.length : Int)))
   (.call ⟨28, [AV.p (PV.ps (psLen ((encL l).getD ((↑i : Int).toNat * 8 + 6) PV.bad)) (psSz ((encL l).getD ((↑i : Int).toNat * 8 + 6) PV.bad)) (psCells ((encL l).getD ((↑i : Int).toNat * 8 + 6) PV.bad)))], [], AV.p (PV.sc (Value.int IntKind.i64 (R (psCells ((encL l).getD ((↑i : Int).toNat * 8 + 6) PV.bad))))), []⟩
   (.call ⟨28, [AV.p (PV.ps (psLen ((encL l).getD ((↑i : Int).toNat * 8 + 7) PV.bad)) (psSz ((encL l).getD ((↑i : Int).toNat * 8 + 7) PV.bad)) (psCells ((encL l).getD ((↑i : Int).toNat * 8 + 7) PV.bad)))], [], AV.p (PV.sc (Value.int IntKind.i64 (R (psCells ((encL l).getD ((↑i : Int).toNat * 8 + 7) PV.bad))))), []⟩
   (.must (inB (↑i : Int) l.length && true && true && (isPs ((encL l).getD ((↑i : Int).toNat * 8 + 6) PV.bad) && true && (inB (↑i : Int) l.length && true && true && (isPs ((encL l).getD ((↑i : Int).toNat * 8 + 7) PV.bad) && true && true))) && true)
    (.need (AV.p (PV.sc (Value.int IntKind.i64 (IntKind.i64.wrap ((↑i : Int) + 1)))) = sI IntKind.i64 (↑(i + 1) : Int))
     (.at (bodyCfg Tryd.prog env 28 0 [AV.p (PV.ps l.length 8 (encL l)), AV.p (PV.sc (Value.int IntKind.i64 (IntKind.i64.wrap (IntKind.i64.wrap (n + R (psCells ((encL l).getD ((↑i : Int).toNat * 8 + 6) PV.bad))) + R (psCells ((encL l).getD ((↑i : Int).toNat * 8 + 7) PV.bad)))))), AV.p (PV.sc (Value.int IntKind.i64 (↑(i + 1) : Int)))] ([]) 0 29))))))
   (.must true
    (.out (Out.ret (AV.p (PV.sc (Value.int IntKind.i64 n))) []))))
theorem lCo_tree (l : List Ins) (n : Int) (i : Nat) (op : Int) (r : Int) (a : Int) (b : Int) (nn : Int) (tg : List Int) (ll : List Ins) (le : List Ins) (R : List PV → Int) : grow Tryd.prog env (lCoOrc l n i op r a b nn tg ll le R) 1000000 true (bodyCfg Tryd.prog env 28 0 ([aL l, sI IntKind.i64 n, sI IntKind.i64 (↑i : Int)]) ([]) 0 29) lCoSc atEnd = lCoTree l n i op r a b nn tg ll le R := by kernel_rfl

/- lDe: 28 steps -/
noncomputable def lDeOrc (l : List Ins) (n : Int) (i : Nat) (op : Int) (r : Int) (a : Int) (b : Int) (nn : Int) (tg : List Int) (ll : List Ins) (le : List Ins) (R : List PV → Int) : Orc := orcS noCall (coL l n i op r a b nn tg ll le R) [(29, 0)] [(29, 0, 1)] [(29, 0, 2)] (coS l n i op r a b nn tg ll le R)
def lDeSc : Sc := .fin
noncomputable def lDeTree (l : List Ins) (n : Int) (i : Nat) (_op : Int) (_r : Int) (_a : Int) (_b : Int) (_nn : Int) (_tg : List Int) (_ll : List Ins) (_le : List Ins) (R : List PV → Int) : Tree :=
  (.test (decide ((↑i : Int) < (↑l.length : Int)))
   (.call ⟨29, [AV.p (PV.ps (psLen ((encL l).getD ((↑i : Int).toNat * 8 + 6) PV.bad)) (psSz ((encL l).getD ((↑i : Int).toNat * 8 + 6) PV.bad)) (psCells ((encL l).getD ((↑i : Int).toNat * 8 + 6) PV.bad)))], [], AV.p (PV.sc (Value.int IntKind.i64 (R (psCells ((encL l).getD ((↑i : Int).toNat * 8 + 6) PV.bad))))), []⟩
   (.call ⟨29, [AV.p (PV.ps (psLen ((encL l).getD ((↑i : Int).toNat * 8 + 7) PV.bad)) (psSz ((encL l).getD ((↑i : Int).toNat * 8 + 7) PV.bad)) (psCells ((encL l).getD ((↑i : Int).toNat * 8 + 7) PV.bad)))], [], AV.p (PV.sc (Value.int IntKind.i64 (R (psCells ((encL l).getD ((↑i : Int).toNat * 8 + 7) PV.bad))))), []⟩
   (.must (inB (↑i : Int) l.length && true && true && (isPs ((encL l).getD ((↑i : Int).toNat * 8 + 6) PV.bad) && true && (inB (↑i : Int) l.length && true && true && (isPs ((encL l).getD ((↑i : Int).toNat * 8 + 7) PV.bad) && true && true))) && true)
    (.need (AV.p (PV.sc (Value.int IntKind.i64 (IntKind.i64.wrap ((↑i : Int) + 1)))) = sI IntKind.i64 (↑(i + 1) : Int))
     (.at (bodyCfg Tryd.prog env 29 0 [AV.p (PV.ps l.length 8 (encL l)), AV.p (PV.sc (Value.int IntKind.i64 (bif false then Min.min n (IntKind.i64.wrap (1 + bif false then Min.min (R (psCells ((encL l).getD ((↑i : Int).toNat * 8 + 6) PV.bad))) (R (psCells ((encL l).getD ((↑i : Int).toNat * 8 + 7) PV.bad))) else Max.max (R (psCells ((encL l).getD ((↑i : Int).toNat * 8 + 6) PV.bad))) (R (psCells ((encL l).getD ((↑i : Int).toNat * 8 + 7) PV.bad))))) else Max.max n (IntKind.i64.wrap (1 + bif false then Min.min (R (psCells ((encL l).getD ((↑i : Int).toNat * 8 + 6) PV.bad))) (R (psCells ((encL l).getD ((↑i : Int).toNat * 8 + 7) PV.bad))) else Max.max (R (psCells ((encL l).getD ((↑i : Int).toNat * 8 + 6) PV.bad))) (R (psCells ((encL l).getD ((↑i : Int).toNat * 8 + 7) PV.bad)))))))), AV.p (PV.sc (Value.int IntKind.i64 (↑(i + 1) : Int)))] ([]) 0 28))))))
   (.must true
    (.out (Out.ret (AV.p (PV.sc (Value.int IntKind.i64 n))) []))))
theorem lDe_tree (l : List Ins) (n : Int) (i : Nat) (op : Int) (r : Int) (a : Int) (b : Int) (nn : Int) (tg : List Int) (ll : List Ins) (le : List Ins) (R : List PV → Int) : grow Tryd.prog env (lDeOrc l n i op r a b nn tg ll le R) 1000000 true (bodyCfg Tryd.prog env 29 0 ([aL l, sI IntKind.i64 n, sI IntKind.i64 (↑i : Int)]) ([]) 0 28) lDeSc atEnd = lDeTree l n i op r a b nn tg ll le R := by kernel_rfl

/- lAl: 135 steps -/
noncomputable def lAlOrc (l : List Ins) (i : Nat) (op : Int) (r : Int) (a : Int) (b : Int) (nn : Int) (tg : List Int) (ll : List Ins) (le : List Ins) (ok : Bool) (R : List PV → Bool) : Orc := orcS (alC l i op r a b nn tg ll le ok R) noLed [(27, 0)] [(27, 0, 1), (27, 5, 7), (27, 5, 16), (27, 0, 2)] [(27, 5, 2), (27, 5, 3), (27, 5, 9), (27, 5, 11), (27, 5, 18), (27, 5, 20)] (alS l i op r a b nn tg ll le ok R)
def lAlSc : Sc := (.fork (.fork (.lit (.lit .fin)) (.fork (.lit .fin) .fin)) .fin)
noncomputable def lAlTree (l : List Ins) (i : Nat) (op : Int) (r : Int) (a : Int) (b : Int) (nn : Int) (tg : List Int) (ll : List Ins) (le : List Ins) (ok : Bool) (R : List PV → Bool) : Tree :=
  (.test (decide ((↑i : Int) < (↑l.length : Int)))
   (.must (inB (↑i : Int) l.length && true && true)
    (.must (isInt IntKind.i64 ((encL l).getD ((↑i : Int).toNat * 8) PV.bad) && (isInt IntKind.i64 ((encL l).getD ((↑i : Int).toNat * 8 + 1) PV.bad) && (isInt IntKind.u32 ((encL l).getD ((↑i : Int).toNat * 8 + 1 + 1) PV.bad) && (isInt IntKind.u32 ((encL l).getD ((↑i : Int).toNat * 8 + 1 + 1 + 1) PV.bad) && (isInt IntKind.i32 ((encL l).getD ((↑i : Int).toNat * 8 + 1 + 1 + 1 + 1) PV.bad) && (isPs ((encL l).getD ((↑i : Int).toNat * 8 + 1 + 1 + 1 + 1 + 1) PV.bad) && (isPs ((encL l).getD ((↑i : Int).toNat * 8 + 1 + 1 + 1 + 1 + 1 + 1) PV.bad) && (isPs ((encL l).getD ((↑i : Int).toNat * 8 + 1 + 1 + 1 + 1 + 1 + 1 + 1) PV.bad) && true))))))) && true)
     (.need (AV.agg [AV.p (PV.sc (Value.int IntKind.i64 (pvInt ((encL l).getD ((↑i : Int).toNat * 8) PV.bad)))), AV.p (PV.sc (Value.int IntKind.i64 (pvInt ((encL l).getD ((↑i : Int).toNat * 8 + 1) PV.bad)))), AV.p (PV.sc (Value.int IntKind.u32 (pvInt ((encL l).getD ((↑i : Int).toNat * 8 + 1 + 1) PV.bad)))), AV.p (PV.sc (Value.int IntKind.u32 (pvInt ((encL l).getD ((↑i : Int).toNat * 8 + 1 + 1 + 1) PV.bad)))), AV.p (PV.sc (Value.int IntKind.i32 (pvInt ((encL l).getD ((↑i : Int).toNat * 8 + 1 + 1 + 1 + 1) PV.bad)))), AV.p (PV.ps (psLen ((encL l).getD ((↑i : Int).toNat * 8 + 1 + 1 + 1 + 1 + 1) PV.bad)) (psSz ((encL l).getD ((↑i : Int).toNat * 8 + 1 + 1 + 1 + 1 + 1) PV.bad)) (psCells ((encL l).getD ((↑i : Int).toNat * 8 + 1 + 1 + 1 + 1 + 1) PV.bad))), AV.p (PV.ps (psLen ((encL l).getD ((↑i : Int).toNat * 8 + 1 + 1 + 1 + 1 + 1 + 1) PV.bad)) (psSz ((encL l).getD ((↑i : Int).toNat * 8 + 1 + 1 + 1 + 1 + 1 + 1) PV.bad)) (psCells ((encL l).getD ((↑i : Int).toNat * 8 + 1 + 1 + 1 + 1 + 1 + 1) PV.bad))), AV.p (PV.ps (psLen ((encL l).getD ((↑i : Int).toNat * 8 + 1 + 1 + 1 + 1 + 1 + 1 + 1) PV.bad)) (psSz ((encL l).getD ((↑i : Int).toNat * 8 + 1 + 1 + 1 + 1 + 1 + 1 + 1) PV.bad)) (psCells ((encL l).getD ((↑i : Int).toNat * 8 + 1 + 1 + 1 + 1 + 1 + 1 + 1) PV.bad)))] = aggI op r a b nn tg ll le)
      (.call ⟨64, [AV.agg [AV.p (PV.sc (Value.int IntKind.i64 op)), AV.p (PV.sc (Value.int IntKind.i64 r)), AV.p (PV.sc (Value.int IntKind.u32 a)), AV.p (PV.sc (Value.int IntKind.u32 b)), AV.p (PV.sc (Value.int IntKind.i32 nn)), AV.p (PV.ps tg.length 1 (encT IntKind.u32 tg)), AV.p (PV.ps ll.length 8 (encL ll)), AV.p (PV.ps le.length 8 (encL le))]], [], AV.p (PV.sc (Value.bool ok)), []⟩
       (.test (!ok)
        (.out (Out.ret (AV.p (PV.sc (Value.bool false))) []))
        (.must (inB (↑i : Int) l.length && true && true)
         (.must (isPs ((encL l).getD ((↑i : Int).toNat * 8 + 6) PV.bad) && true)
          (.need (AV.p (PV.ps (psLen ((encL l).getD ((↑i : Int).toNat * 8 + 6) PV.bad)) (psSz ((encL l).getD ((↑i : Int).toNat * 8 + 6) PV.bad)) (psCells ((encL l).getD ((↑i : Int).toNat * 8 + 6) PV.bad))) = aL ll)
           (.call ⟨27, [AV.p (PV.ps ll.length 8 (encL ll))], [], AV.p (PV.sc (Value.bool (R (encL ll)))), []⟩
            (.test (!R (encL ll))
             (.out (Out.ret (AV.p (PV.sc (Value.bool false))) []))
             (.must (inB (↑i : Int) l.length && true && true)
              (.must (isPs ((encL l).getD ((↑i : Int).toNat * 8 + 7) PV.bad) && true)
               (.need (AV.p (PV.ps (psLen ((encL l).getD ((↑i : Int).toNat * 8 + 7) PV.bad)) (psSz ((encL l).getD ((↑i : Int).toNat * 8 + 7) PV.bad)) (psCells ((encL l).getD ((↑i : Int).toNat * 8 + 7) PV.bad))) = aL le)
                (.call ⟨27, [AV.p (PV.ps le.length 8 (encL le))], [], AV.p (PV.sc (Value.bool (R (encL le)))), []⟩
                 (.test (!R (encL le))
                  (.out (Out.ret (AV.p (PV.sc (Value.bool false))) []))
                  (.need (AV.p (PV.sc (Value.int IntKind.i64 (IntKind.i64.wrap ((↑i : Int) + 1)))) = sI IntKind.i64 (↑(i + 1) : Int))
                   (.at (bodyCfg Tryd.prog env 27 0 [AV.p (PV.ps l.length 8 (encL l)), AV.p (PV.sc (Value.int IntKind.i64 (↑(i + 1) : Int)))] ([]) 0 34))))))))))))))))))
   (.out (Out.ret (AV.p (PV.sc (Value.bool true))) [])))
theorem lAl_tree (l : List Ins) (i : Nat) (op : Int) (r : Int) (a : Int) (b : Int) (nn : Int) (tg : List Int) (ll : List Ins) (le : List Ins) (ok : Bool) (R : List PV → Bool) : grow Tryd.prog env (lAlOrc l i op r a b nn tg ll le ok R) 1000000 true (bodyCfg Tryd.prog env 27 0 ([aL l, sI IntKind.i64 (↑i : Int)]) ([]) 0 34) lAlSc atEnd = lAlTree l i op r a b nn tg ll le ok R := by kernel_rfl

/- lTa: 126 steps -/
noncomputable def lTaOrc (l : List Ins) (i : Nat) (op : Int) (r : Int) (a : Int) (b : Int) (nn : Int) (tg : List Int) (ll : List Ins) (le : List Ins) (ok : Bool) (R : List PV → Bool) : Orc := orcS (alC l i op r a b nn tg ll le ok R) noLed [(30, 0)] [(30, 0, 1), (30, 5, 8), (30, 5, 16), (30, 0, 2)] [(30, 5, 2), (30, 5, 4), (30, 5, 10), (30, 5, 12), (30, 5, 18), (30, 5, 20)] (alS l i op r a b nn tg ll le ok R)
def lTaSc : Sc := (.fork (.fork (.lit (.lit .fin)) (.fork (.lit .fin) .fin)) .fin)
noncomputable def lTaTree (l : List Ins) (i : Nat) (_op : Int) (_r : Int) (_a : Int) (_b : Int) (_nn : Int) (tg : List Int) (ll : List Ins) (le : List Ins) (_ok : Bool) (R : List PV → Bool) : Tree :=
  (.test (decide ((↑i : Int) < (↑l.length : Int)))
   (.must (inB (↑i : Int) l.length && true && true)
    (.must (isPs ((encL l).getD ((↑i : Int).toNat * 8 + 5) PV.bad) && true)
     (.need (AV.p (PV.ps (psLen ((encL l).getD ((↑i : Int).toNat * 8 + 5) PV.bad)) (psSz ((encL l).getD ((↑i : Int).toNat * 8 + 5) PV.bad)) (psCells ((encL l).getD ((↑i : Int).toNat * 8 + 5) PV.bad))) = AV.p (PV.ps tg.length 1 (encT IntKind.u32 tg)))
      (.test (decide ((↑tg.length : Int) > 16384))
       (.out (Out.ret (AV.p (PV.sc (Value.bool true))) []))
       (.must (inB (↑i : Int) l.length && true && true)
        (.must (isPs ((encL l).getD ((↑i : Int).toNat * 8 + 6) PV.bad) && true)
         (.need (AV.p (PV.ps (psLen ((encL l).getD ((↑i : Int).toNat * 8 + 6) PV.bad)) (psSz ((encL l).getD ((↑i : Int).toNat * 8 + 6) PV.bad)) (psCells ((encL l).getD ((↑i : Int).toNat * 8 + 6) PV.bad))) = aL ll)
          (.call ⟨30, [AV.p (PV.ps ll.length 8 (encL ll))], [], AV.p (PV.sc (Value.bool (R (encL ll)))), []⟩
           (.test (R (encL ll))
            (.out (Out.ret (AV.p (PV.sc (Value.bool true))) []))
            (.must (inB (↑i : Int) l.length && true && true)
             (.must (isPs ((encL l).getD ((↑i : Int).toNat * 8 + 7) PV.bad) && true)
              (.need (AV.p (PV.ps (psLen ((encL l).getD ((↑i : Int).toNat * 8 + 7) PV.bad)) (psSz ((encL l).getD ((↑i : Int).toNat * 8 + 7) PV.bad)) (psCells ((encL l).getD ((↑i : Int).toNat * 8 + 7) PV.bad))) = aL le)
               (.call ⟨30, [AV.p (PV.ps le.length 8 (encL le))], [], AV.p (PV.sc (Value.bool (R (encL le)))), []⟩
                (.test (R (encL le))
                 (.out (Out.ret (AV.p (PV.sc (Value.bool true))) []))
                 (.need (AV.p (PV.sc (Value.int IntKind.i64 (IntKind.i64.wrap ((↑i : Int) + 1)))) = sI IntKind.i64 (↑(i + 1) : Int))
                  (.at (bodyCfg Tryd.prog env 30 0 [AV.p (PV.ps l.length 8 (encL l)), AV.p (PV.sc (Value.int IntKind.i64 (↑(i + 1) : Int)))] ([]) 0 33)))))))))))))))))
   (.out (Out.ret (AV.p (PV.sc (Value.bool false))) [])))
theorem lTa_tree (l : List Ins) (i : Nat) (op : Int) (r : Int) (a : Int) (b : Int) (nn : Int) (tg : List Int) (ll : List Ins) (le : List Ins) (ok : Bool) (R : List PV → Bool) : grow Tryd.prog env (lTaOrc l i op r a b nn tg ll le ok R) 1000000 true (bodyCfg Tryd.prog env 30 0 ([aL l, sI IntKind.i64 (↑i : Int)]) ([]) 0 33) lTaSc atEnd = lTaTree l i op r a b nn tg ll le ok R := by kernel_rfl

/- rCk: 86 steps -/
noncomputable def rCkOrc (l : List Ins) (a : Bool) (n : Int) (d : Int) (t : Bool) : Orc := orcL (ckC l a n d t) noLed [] [(13, 0, 0), (13, 4, 4), (13, 4, 9), (13, 0, 1)] []
def rCkSc : Sc := (.fork .fin (.fork (.lit (.lit .fin)) (.fork (.lit .fin) .fin)))
noncomputable def rCkTree (l : List Ins) (a : Bool) (n : Int) (d : Int) (t : Bool) : Tree :=
  (.call ⟨27, [AV.p (PV.ps l.length 8 (encL l))], [], AV.p (PV.sc (Value.bool a)), []⟩
   (.test (!a)
    (.out (Out.ret (AV.p (PV.sc (Value.int IntKind.i64 2))) []))
    (.call ⟨28, [AV.p (PV.ps l.length 8 (encL l))], [], AV.p (PV.sc (Value.int IntKind.i64 n)), []⟩
     (.test (decide (n > 262144))
      (.out (Out.ret (AV.p (PV.sc (Value.int IntKind.i64 141))) []))
      (.call ⟨29, [AV.p (PV.ps l.length 8 (encL l))], [], AV.p (PV.sc (Value.int IntKind.i64 d)), []⟩
       (.test (decide (d > 900))
        (.out (Out.ret (AV.p (PV.sc (Value.int IntKind.i64 141))) []))
        (.call ⟨30, [AV.p (PV.ps l.length 8 (encL l))], [], AV.p (PV.sc (Value.bool t)), []⟩
         (.test (t)
          (.out (Out.ret (AV.p (PV.sc (Value.int IntKind.i64 141))) []))
          (.out (Out.ret (AV.p (PV.sc (Value.int IntKind.i64 0))) []))))))))))
theorem rCk_tree (l : List Ins) (a : Bool) (n : Int) (d : Int) (t : Bool) : growF Tryd.prog env (rCkOrc l a n d t) 1000000 13 ([aL l]) ([]) rCkSc = rCkTree l a n d t := by kernel_rfl


theorem rall_does {p : Ins → Bool} (hp : ∀ x : Ins, Does Tryd.prog env 64 [aggX x] [] (sB (p x)) []) : ∀ l : List Ins, numL l ≤ bigN → Does Tryd.prog env 27 [aL l] [] (sB (okL p l)) [] := by
  refine ins_rec fun l IH hb => does_of_tree names (rAl_tree l) ?_
  have loop : ∀ (r k : Nat), k + r = l.length → Am.Good Tryd.prog env (bodyCfg Tryd.prog env 27 0 [aL l, sI .i64 k] [] 0 34) (.ret (sB (okL p (l.drop k))) []) := by
    intro r
    induction r with
    | zero =>
      intro k hk
      refine good_of_tree names (lAl_tree l k 0 0 0 0 0 [] [] [] true (fun _ => true)) ?_
      have h2 : ¬ ((k : Int) < l.length) := by omega
      rw [List.drop_eq_nil_of_le (by omega)]
      simp only [lAlTree, Tree.ok, okL]
      exact ⟨fun h => absurd (by simpa using h) h2, fun _ => trivial⟩
    | succ r ih =>
      intro k hk
      have hkl : k < l.length := by omega
      have hgx : l[k]? = some l[k] := List.getElem?_eq_getElem hkl
      have hmem : l[k] ∈ l := List.getElem_mem hkl
      rw [show l.drop k = l[k] :: l.drop (k + 1) from List.drop_eq_getElem_cons hkl]
      have hlen := numL_length l
      have hbig : bigN = 1000000000000 := rfl
      generalize l[k] = x at *
      have hIH := IH x hmem
      have hpx := hp x
      have hnx := numL_mem hmem
      obtain ⟨op, rs, a, b, nn, tg, ll, le⟩ := x
      simp only [Ins.l, Ins.e, numI] at hIH hnx
      obtain ⟨c0, c1, c2, c3, c4, c5, c6, c7⟩ := cells_at hgx
      have w1 : IntKind.i64.wrap ((k : Int) + 1) = ((k + 1 : Nat) : Int) := by rw [i64In (by omega) (by omega)]; rfl
      have hkI : (k : Int) < (l.length : Int) := by omega
      refine good_of_tree names (lAl_tree l k op rs a b nn tg ll le (p (.mk op rs a b nn tg ll le)) (ofCells true (okL p))) ?_
      simp only [lAlTree, Tree.ok, Int.toNat_natCast, Nat.add_assoc, Nat.reduceAdd, c0, c1, c2, c3, c4, c5, c6, c7, isInt, isPs, pvInt, psLen, psSz, psCells, inB, w1, ofCells_eq, okL, okI]
      refine ⟨fun _ => ⟨by simp [hkI], by simp, rfl, hpx, fun h => ?_, fun h => ⟨by simp [hkI], rfl, (by trivial), hIH.1 (by omega), fun h1 => ?_, fun h1 => ⟨by simp [hkI], rfl, (by trivial), hIH.2 (by omega), fun h2 => ?_, fun h2 => ⟨(by trivial), ?_⟩⟩⟩⟩, fun h => absurd hkI (by simpa using h)⟩
      · rw [Bool.not_eq_true'] at h; rw [h]; rfl
      · rw [Bool.not_eq_true'] at h1; rw [h1, Bool.false_and, Bool.and_false, Bool.false_and]
      · rw [Bool.not_eq_true'] at h2; rw [h2, Bool.and_false, Bool.and_false, Bool.false_and]
      · rw [Bool.not_eq_false'] at h h1 h2
        rw [h, h1, h2]
        exact ih (k + 1) (by omega)
  have h := loop l.length 0 (by omega)
  rw [List.drop_zero] at h
  exact h

theorem rtags_does : ∀ l : List Ins, numL l ≤ bigN → Does Tryd.prog env 30 [aL l] [] (sB (decide (16384 < tagL l))) [] := by
  refine ins_rec fun l IH hb => does_of_tree names (rTa_tree l) ?_
  have loop : ∀ (r k : Nat), k + r = l.length → Am.Good Tryd.prog env (bodyCfg Tryd.prog env 30 0 [aL l, sI .i64 k] [] 0 33) (.ret (sB (decide (16384 < tagL (l.drop k)))) []) := by
    intro r
    induction r with
    | zero =>
      intro k hk
      refine good_of_tree names (lTa_tree l k 0 0 0 0 0 [] [] [] true (fun _ => true)) ?_
      have h2 : ¬ ((k : Int) < l.length) := by omega
      rw [List.drop_eq_nil_of_le (by omega)]
      simp only [lTaTree, Tree.ok, tagL]
      exact ⟨fun h => absurd (by simpa using h) h2, fun _ => rfl⟩
    | succ r ih =>
      intro k hk
      have hkl : k < l.length := by omega
      have hgx : l[k]? = some l[k] := List.getElem?_eq_getElem hkl
      have hmem : l[k] ∈ l := List.getElem_mem hkl
      rw [show l.drop k = l[k] :: l.drop (k + 1) from List.drop_eq_getElem_cons hkl]
      have hlen := numL_length l
      have hbig : bigN = 1000000000000 := rfl
      generalize l[k] = x at *
      have hIH := IH x hmem
      have hnx := numL_mem hmem
      obtain ⟨op, rs, a, b, nn, tg, ll, le⟩ := x
      simp only [Ins.l, Ins.e, numI] at hIH hnx
      obtain ⟨c0, c1, c2, c3, c4, c5, c6, c7⟩ := cells_at hgx
      have w1 : IntKind.i64.wrap ((k : Int) + 1) = ((k + 1 : Nat) : Int) := by rw [i64In (by omega) (by omega)]; rfl
      have hkI : (k : Int) < (l.length : Int) := by omega
      refine good_of_tree names (lTa_tree l k op rs a b nn tg ll le true (ofCells true fun l => decide (16384 < tagL l))) ?_
      simp only [lTaTree, Tree.ok, Int.toNat_natCast, c5, c6, c7, isPs, psLen, psSz, psCells, inB, w1, ofCells_eq]
      have hT : tagL (.mk op rs a b nn tg ll le :: l.drop (k + 1)) = max (max tg.length (max (tagL ll) (tagL le))) (tagL (l.drop (k + 1))) := by simp only [tagL, tagI]
      generalize tagL (.mk op rs a b nn tg ll le :: l.drop (k + 1)) = T at *
      have out : 16384 < T → Out.ret (.p (.sc (.bool true))) [] = Out.ret (sB (decide (16384 < T))) [] := fun hq => by rw [decide_eq_true hq]
      refine ⟨fun _ => ⟨by simp [hkI], rfl, (by trivial), fun h => out ?_, fun h => ⟨by simp [hkI], rfl, (by trivial), hIH.1 (by omega), fun h1 => out ?_, fun h1 => ⟨by simp [hkI], rfl, (by trivial), hIH.2 (by omega), fun h2 => out ?_, fun h2 => ⟨(by trivial), ?_⟩⟩⟩⟩, fun h => absurd hkI (by simpa using h)⟩
      · rw [decide_eq_true_eq] at h; omega
      · rw [decide_eq_true_eq] at h1; omega
      · rw [decide_eq_true_eq] at h2; omega
      · rw [decide_eq_false_iff_not] at h h1 h2
        have := ih (k + 1) (by omega)
        rw [show decide (16384 < T) = decide (16384 < tagL (l.drop (k + 1))) from Bool.eq_iff_iff.2 (by rw [decide_eq_true_eq, decide_eq_true_eq]; omega)]
        exact this
  have h := loop l.length 0 (by omega)
  rw [List.drop_zero] at h
  exact h

theorem rcount_does : ∀ l : List Ins, numL l ≤ bigN → Does Tryd.prog env 28 [aL l] [] (sI .i64 (numL l)) [] := by
  refine ins_rec fun l IH hb => does_of_tree names (rCo_tree l) ?_
  have loop : ∀ (r k n : Nat), k + r = l.length → n + numL (l.drop k) ≤ 2 * bigN + (l.drop k).length → Am.Good Tryd.prog env (bodyCfg Tryd.prog env 28 0 [aL l, sI .i64 n, sI .i64 k] [] 0 29) (.ret (sI .i64 (n + numL (l.drop k) - (l.drop k).length : Int)) []) := by
    intro r
    induction r with
    | zero =>
      intro k n hk hn
      refine good_of_tree names (lCo_tree l n k 0 0 0 0 0 [] [] [] (fun _ => 0)) ?_
      have h2 : ¬ ((k : Int) < l.length) := by omega
      rw [List.drop_eq_nil_of_le (by omega)]
      simp only [lCoTree, Tree.ok, numL]
      exact ⟨fun h => absurd (by simpa using h) h2, fun _ => ⟨(by trivial), by simp⟩⟩
    | succ r ih =>
      intro k n hk
      have hkl : k < l.length := by omega
      have hgx : l[k]? = some l[k] := List.getElem?_eq_getElem hkl
      have hmem : l[k] ∈ l := List.getElem_mem hkl
      rw [show l.drop k = l[k] :: l.drop (k + 1) from List.drop_eq_getElem_cons hkl]
      have hlen := numL_length l
      have hlen2 := numL_length (l.drop (k + 1))
      have hbig : bigN = 1000000000000 := rfl
      generalize l[k] = x at *
      have hIH := IH x hmem
      have hnx := numL_mem hmem
      obtain ⟨op, rs, a, b, nn, tg, ll, le⟩ := x
      simp only [Ins.l, Ins.e, numI, numL, List.length_cons] at hIH hnx ⊢
      intro hn
      obtain ⟨c0, c1, c2, c3, c4, c5, c6, c7⟩ := cells_at hgx
      have w1 : IntKind.i64.wrap ((k : Int) + 1) = ((k + 1 : Nat) : Int) := by rw [i64In (by omega) (by omega)]; rfl
      have w2 : IntKind.i64.wrap ((n : Int) + numL ll) = ((n + numL ll : Nat) : Int) := by rw [i64In (by omega) (by omega)]; rfl
      have w3 : IntKind.i64.wrap (((n + numL ll : Nat) : Int) + numL le) = ((n + numL ll + numL le : Nat) : Int) := by rw [i64In (by omega) (by omega)]; rfl
      have hkI : (k : Int) < (l.length : Int) := by omega
      refine good_of_tree names (lCo_tree l n k op rs a b nn tg ll le (ofCells 0 fun l => (numL l : Int))) ?_
      simp only [lCoTree, Tree.ok, Int.toNat_natCast, c6, c7, isPs, psLen, psSz, psCells, inB, w1, ofCells_eq, w2, w3]
      have := ih (k + 1) (n + numL ll + numL le) (by omega) (by omega)
      refine ⟨fun _ => ⟨hIH.1 (by omega), hIH.2 (by omega), by simp [hkI], (by trivial), ?_⟩, fun h => absurd hkI (by simpa using h)⟩
      rw [show ((n : Int) + ((1 + numL ll + numL le + numL (l.drop (k + 1)) : Nat) : Int) - (((l.drop (k + 1)).length + 1 : Nat) : Int)) = ((n + numL ll + numL le : Nat) : Int) + numL (l.drop (k + 1)) - (l.drop (k + 1)).length by omega]
      exact this
  have h := loop l.length 0 l.length (by omega) (by rw [List.drop_zero]; have hbig : bigN = 1000000000000 := rfl; omega)
  rw [List.drop_zero, show ((l.length : Int) + numL l - l.length) = numL l by omega] at h
  exact h

/-- As the document counts it. -/
theorem depL_two (l : List Ins) : depL 2 l = if l = [] then 0 else depL 1 l + 1 := by
  split
  · rename_i h; rw [h]; rfl
  · rename_i h; exact depL_shift 1 l h

theorem depI_one (op rs a b nn : Int) (tg : List Int) (ll le : List Ins) : depI 1 (.mk op rs a b nn tg ll le) = 1 + max (depL 1 ll) (depL 1 le) := by
  simp only [depI, Nat.reduceAdd, depL_two]
  have z : depL 1 ([] : List Ins) = 0 := rfl
  split <;> split <;> simp_all <;> omega

theorem rdeep_does : ∀ l : List Ins, numL l ≤ bigN → Does Tryd.prog env 29 [aL l] [] (sI .i64 (depL 1 l)) [] := by
  refine ins_rec fun l IH hb => does_of_tree names (rDe_tree l) ?_
  have loop : ∀ (r k n : Nat), k + r = l.length → Am.Good Tryd.prog env (bodyCfg Tryd.prog env 29 0 [aL l, sI .i64 n, sI .i64 k] [] 0 28) (.ret (sI .i64 (max n (depL 1 (l.drop k)) : Nat)) []) := by
    intro r
    induction r with
    | zero =>
      intro k n hk
      refine good_of_tree names (lDe_tree l n k 0 0 0 0 0 [] [] [] (fun _ => 0)) ?_
      have h2 : ¬ ((k : Int) < l.length) := by omega
      rw [List.drop_eq_nil_of_le (by omega)]
      simp only [lDeTree, Tree.ok, depL, Nat.max_zero]
      exact ⟨fun h => absurd (by simpa using h) h2, fun _ => ⟨(by trivial), (by trivial)⟩⟩
    | succ r ih =>
      intro k n hk
      have hkl : k < l.length := by omega
      have hgx : l[k]? = some l[k] := List.getElem?_eq_getElem hkl
      have hmem : l[k] ∈ l := List.getElem_mem hkl
      rw [show l.drop k = l[k] :: l.drop (k + 1) from List.drop_eq_getElem_cons hkl]
      have hlen := numL_length l
      have hbig : bigN = 1000000000000 := rfl
      generalize l[k] = x at *
      have hIH := IH x hmem
      have hnx := numL_mem hmem
      obtain ⟨op, rs, a, b, nn, tg, ll, le⟩ := x
      simp only [Ins.l, Ins.e, numI] at hIH hnx
      have d1 := depL_num 1 ll
      have d2 := depL_num 1 le
      obtain ⟨c0, c1, c2, c3, c4, c5, c6, c7⟩ := cells_at hgx
      have w1 : IntKind.i64.wrap ((k : Int) + 1) = ((k + 1 : Nat) : Int) := by rw [i64In (by omega) (by omega)]; rfl
      have m1 : max (depL 1 ll : Int) (depL 1 le : Int) = ((max (depL 1 ll) (depL 1 le) : Nat) : Int) := by omega
      have w2 : IntKind.i64.wrap (1 + ((max (depL 1 ll) (depL 1 le) : Nat) : Int)) = ((1 + max (depL 1 ll) (depL 1 le) : Nat) : Int) := by rw [i64In (by omega) (by omega)]; rfl
      have m2 : max (n : Int) ((1 + max (depL 1 ll) (depL 1 le) : Nat) : Int) = ((max n (1 + max (depL 1 ll) (depL 1 le)) : Nat) : Int) := by omega
      have hkI : (k : Int) < (l.length : Int) := by omega
      refine good_of_tree names (lDe_tree l n k op rs a b nn tg ll le (ofCells 0 fun l => (depL 1 l : Int))) ?_
      simp only [lDeTree, Tree.ok, Int.toNat_natCast, c6, c7, isPs, psLen, psSz, psCells, inB, w1, ofCells_eq, cond_false, m1, w2, m2]
      have := ih (k + 1) (max n (1 + max (depL 1 ll) (depL 1 le))) (by omega)
      refine ⟨fun _ => ⟨hIH.1 (by omega), hIH.2 (by omega), by simp [hkI], (by trivial), ?_⟩, fun h => absurd hkI (by simpa using h)⟩
      rw [show max n (depL 1 (.mk op rs a b nn tg ll le :: l.drop (k + 1))) = max (max n (1 + max (depL 1 ll) (depL 1 le))) (depL 1 (l.drop (k + 1))) by simp only [depL, depI_one]; omega]
      exact this
  have h := loop l.length 0 0 (by omega)
  rw [List.drop_zero, Nat.zero_max] at h
  exact h

/-- The document's check. -/
theorem rcheck_does {p : Ins → Bool} (hp : ∀ x : Ins, Does Tryd.prog env 64 [aggX x] [] (sB (p x)) []) (l : List Ins) (h : numL l ≤ bigN) : Does Tryd.prog env 13 [aL l] [] (sI .i64 (checkF p l)) [] := by
  refine does_of_tree names (rCk_tree l (okL p l) (numL l) (depL 1 l) (decide (16384 < tagL l))) ⟨rall_does hp l h, fun h0 => ?_, fun h0 => ⟨rcount_does l h, fun h1 => ?_, fun h1 => ⟨rdeep_does l h, fun h2 => ?_, fun h2 => ⟨rtags_does l h, fun h3 => ?_, fun h3 => ?_⟩⟩⟩⟩
  · rw [Bool.not_eq_true'] at h0
    rw [checkF, if_pos h0]; rfl
  all_goals
    rw [Bool.not_eq_false'] at h0
    simp only [decide_eq_true_eq, decide_eq_false_iff_not] at *
    rw [checkF, if_neg (by rw [h0]; simp)]
  · rw [if_pos (by omega)]; rfl
  · rw [if_pos (by omega)]; rfl
  · rw [if_pos (by omega)]; rfl
  · rw [if_neg (by omega)]; rfl

end Go.Proofs.YtjjloibfhgofcaaDoor.N
