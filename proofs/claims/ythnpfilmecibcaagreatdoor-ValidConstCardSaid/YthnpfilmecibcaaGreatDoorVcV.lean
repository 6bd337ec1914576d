/-
  ValidConst: its functions' trees (printed by a program of mine).
-/
import Derived.Test.YthnpfilmecibcaaGreatDoorVcU
namespace Go.Proofs.YthnpfilmecibcaaGreatDoor.N
open Go Go.Am

def s32c : AV := .p (.sc (.string ⟨#[105, 51, 50, 46, 99, 111, 110, 115, 116]⟩))
def nameCall (f : FuncId) (_ : List AV) (m : Mem) : Option (AV × Mem) := cond (Nat.beq f 26 || Nat.beq f 41) (some (s32c, m)) none
def aggX (r a b n : Int) (tags : List Int) (ll le : List Ins) : AV := .agg [sI .i64 65, sI .i64 r, sI .u32 a, sI .u32 b, sI .i32 n, .p (.ps tags.length 1 (encT .u32 tags)), aL ll, aL le]
def mayArgs (r a b n : Int) (tags : List Int) (ll le : List Ins) : List AV := [aggX r a b n tags ll le]
/- may: 471 steps -/
def mayOrc : Orc := orcL nameCall noLed [] [(16, 4, 4), (16, 0, 1), (16, 0, 3), (16, 5, 8), (16, 0, 2), (16, 8, 8), (16, 8, 17)] []
def maySc : Sc := (.fork (.lit (.lit .fin)) (.fork (.yes .fin) (.fork (.lit (.lit .fin)) (.fork (.yes .fin) (.fork .fin (.fork .fin (.lit .fin)))))))
noncomputable def mayTree (r : Int) (a : Int) (b : Int) (_n : Int) (tags : List Int) (ll : List Ins) (le : List Ins) : Tree :=
  (.call ⟨26, [AV.p (PV.sc (Value.int IntKind.i64 65))], [], AV.p (PV.sc (Value.string (ByteArray.mk #[105, 51, 50, 46, 99, 111, 110, 115, 116]))), []⟩
   (.test (decide (r < 0))
    (.out (Out.ret (AV.p (PV.sc (Value.bool false))) []))
    (.test (decide (r > 1))
     (.must (decide (r > 1))
      (.out (Out.ret (AV.p (PV.sc (Value.bool false))) [])))
     (.test (r != 0)
      (.out (Out.ret (AV.p (PV.sc (Value.bool false))) []))
      (.test (decide ((↑ll.length : Int) > 0))
       (.must (decide ((↑ll.length : Int) > 0))
        (.out (Out.ret (AV.p (PV.sc (Value.bool false))) [])))
       (.test (decide ((↑le.length : Int) > 0))
        (.out (Out.ret (AV.p (PV.sc (Value.bool false))) []))
        (.test (a == 0)
         (.test (b == 0)
          (.out (Out.ret (AV.p (PV.sc (Value.bool ((↑tags.length : Int) == 0)))) []))
          (.out (Out.ret (AV.p (PV.sc (Value.bool false))) [])))
         (.out (Out.ret (AV.p (PV.sc (Value.bool false))) [])))))))))
theorem may_tree (r : Int) (a : Int) (b : Int) (n : Int) (tags : List Int) (ll : List Ins) (le : List Ins) : growF Tryz.prog env mayOrc 1000000 16 ([aggX r a b n tags ll le]) ([]) maySc = mayTree r a b n tags ll le := by kernel_rfl

/- rig: 1046 steps -/
def rigOrc : Orc := orcL nameCall noLed [] [(27, 3, 10), (27, 3, 15), (27, 3, 19), (27, 3, 31), (27, 3, 43), (27, 5, 5), (27, 5, 14), (27, 5, 24), (27, 7, 4)] []
def rigSc : Sc := (.fork (.lit .fin) .fin)
noncomputable def rigTree (r : Int) (a : Int) (b : Int) (n : Int) (tags : List Int) (ll : List Ins) (le : List Ins) : Tree :=
  (.test (decide (r < 0))
   (.out (Out.ret (AV.p (PV.sc (Value.bool false))) []))
   (.test (decide (r > 1))
    (.out (Out.ret (AV.p (PV.sc (Value.bool false))) []))
    (.test (decide (r > 0))
     (.out (Out.ret (AV.p (PV.sc (Value.bool false))) []))
     (.test (decide ((↑ll.length : Int) > 0))
      (.out (Out.ret (AV.p (PV.sc (Value.bool false))) []))
      (.test (decide ((↑le.length : Int) > 0))
       (.out (Out.ret (AV.p (PV.sc (Value.bool false))) []))
       (.test (decide ((↑tags.length : Int) > 0))
        (.out (Out.ret (AV.p (PV.sc (Value.bool false))) []))
        (.test (n != 0)
         (.test (b != 0)
          (.out (Out.ret (AV.p (PV.sc (Value.bool false))) []))
          (.test (a == 0)
           (.out (Out.ret (AV.p (PV.sc (Value.bool true))) []))
           (.out (Out.ret (AV.p (PV.sc (Value.bool false))) []))))
         (.test (b != 0)
          (.out (Out.ret (AV.p (PV.sc (Value.bool false))) []))
          (.test (a == 0)
           (.out (Out.ret (AV.p (PV.sc (Value.bool true))) []))
           (.out (Out.ret (AV.p (PV.sc (Value.bool false))) [])))))))))))
theorem rig_tree (r : Int) (a : Int) (b : Int) (n : Int) (tags : List Int) (ll : List Ins) (le : List Ins) : growF Tryz.prog env rigOrc 1000000 27 ([aggX r a b n tags ll le]) ([]) rigSc = rigTree r a b n tags ll le := by kernel_rfl

def falseCall (f : FuncId) (_ : List AV) (m : Mem) : Option (AV × Mem) := cond (Nat.beq f 16 || Nat.beq f 27) (some (sB false, m)) none
def trueCall (f : FuncId) (_ : List AV) (m : Mem) : Option (AV × Mem) := cond (Nat.beq f 16 || Nat.beq f 27) (some (sB true, m)) none
def aX (r a b n : Int) (tags : List Int) (ll le : List Ins) : AV := .p (.ps 1 8 [.sc (.int .i64 65), .sc (.int .i64 r), .sc (.int .u32 a), .sc (.int .u32 b), .sc (.int .i32 n), .ps tags.length 1 (encT .u32 tags), .ps ll.length 8 (encL ll), .ps le.length 8 (encL le)])
def aN (n : Int) : AV := .p (.ps 1 8 [.sc (.int .i64 65), .sc (.int .i64 0), .sc (.int .u32 0), .sc (.int .u32 0), .sc (.int .i32 n), .ps 0 1 [], .ps 0 8 [], .ps 0 8 []])
def xArgs (r a b n : Int) (tags : List Int) (ll le : List Ins) : List AV := [aX r a b n tags ll le]
def nArgs (n : Int) : List AV := [aN n]
def kC : List Call' := [⟨18, [.p (.ps 0 8 [])], [], sI .i64 0, []⟩, ⟨19, [.p (.ps 0 8 [])], [], sI .i64 0, []⟩, ⟨20, [.p (.ps 0 8 [])], [], sB false, []⟩]
def ledK (f : FuncId) (args : List AV) (m : Mem) : Option (AV × Mem) := knownAt kC f args m
def ckCall (_ : List Ins) (ck : Int) (f : FuncId) (_ : List AV) (m : Mem) : Option (AV × Mem) := cond (Nat.beq f 9 || Nat.beq f 10) (some (sI .i64 ck, m)) none
def lArgs (l : List Ins) (_ck : Int) : List AV := [aL l]
def lawCall (_ : List Ins) (n u e : Int) (f : FuncId) (args : List AV) (m : Mem) : Option (AV × Mem) :=
  cond (Nat.beq f 4) (some (sI .i64 n, m)) (cond (Nat.beq f 6) (match args with | [v] => some (v, m) | _ => none) (cond (Nat.beq f 5 || Nat.beq f 7) (some (.tup [sI .u32 u, sI .i64 e], m)) (cond (Nat.beq f 8) (some (sB true, m)) none)))
def lawArgs (l : List Ins) (_n _u _e : Int) : List AV := [aL l]
/- ckf: 137 steps -/
def ckfOrc : Orc := orcL falseCall noLed [] [] []
def ckfSc : Sc := .fin
noncomputable def ckfTree (r : Int) (a : Int) (b : Int) (n : Int) (tags : List Int) (ll : List Ins) (le : List Ins) : Tree :=
  (.call ⟨16, [AV.agg [AV.p (PV.sc (Value.int IntKind.i64 65)), AV.p (PV.sc (Value.int IntKind.i64 r)), AV.p (PV.sc (Value.int IntKind.u32 a)), AV.p (PV.sc (Value.int IntKind.u32 b)), AV.p (PV.sc (Value.int IntKind.i32 n)), AV.p (PV.ps tags.length 1 (encT IntKind.u32 tags)), AV.p (PV.ps ll.length 8 (encL ll)), AV.p (PV.ps le.length 8 (encL le))]], [], AV.p (PV.sc (Value.bool false)), []⟩
   (.out (Out.ret (AV.p (PV.sc (Value.int IntKind.i64 2))) [])))
theorem ckf_tree (r : Int) (a : Int) (b : Int) (n : Int) (tags : List Int) (ll : List Ins) (le : List Ins) : growF Tryz.prog env ckfOrc 1000000 9 ([aX r a b n tags ll le]) ([]) ckfSc = ckfTree r a b n tags ll le := by kernel_rfl

/- ckt: 216 steps -/
def cktOrc : Orc := orcL trueCall noLed [] [] []
def cktSc : Sc := .fin
noncomputable def cktTree (n : Int) : Tree :=
  (.call ⟨16, [AV.agg [AV.p (PV.sc (Value.int IntKind.i64 65)), AV.p (PV.sc (Value.int IntKind.i64 0)), AV.p (PV.sc (Value.int IntKind.u32 0)), AV.p (PV.sc (Value.int IntKind.u32 0)), AV.p (PV.sc (Value.int IntKind.i32 n)), AV.p (PV.ps 0 1 []), AV.p (PV.ps 0 8 []), AV.p (PV.ps 0 8 [])]], [], AV.p (PV.sc (Value.bool true)), []⟩
   (.out (Out.ret (AV.p (PV.sc (Value.int IntKind.i64 0))) [])))
theorem ckt_tree (n : Int) : growF Tryz.prog env cktOrc 1000000 9 ([aN n]) ([]) cktSc = cktTree n := by kernel_rfl

/- rkf: 89 steps -/
def rkfOrc : Orc := orcL falseCall noLed [] [] []
def rkfSc : Sc := .fin
noncomputable def rkfTree (r : Int) (a : Int) (b : Int) (n : Int) (tags : List Int) (ll : List Ins) (le : List Ins) : Tree :=
  (.call ⟨27, [AV.agg [AV.p (PV.sc (Value.int IntKind.i64 65)), AV.p (PV.sc (Value.int IntKind.i64 r)), AV.p (PV.sc (Value.int IntKind.u32 a)), AV.p (PV.sc (Value.int IntKind.u32 b)), AV.p (PV.sc (Value.int IntKind.i32 n)), AV.p (PV.ps tags.length 1 (encT IntKind.u32 tags)), AV.p (PV.ps ll.length 8 (encL ll)), AV.p (PV.ps le.length 8 (encL le))]], [], AV.p (PV.sc (Value.bool false)), []⟩
   (.out (Out.ret (AV.p (PV.sc (Value.int IntKind.i64 2))) [])))
theorem rkf_tree (r : Int) (a : Int) (b : Int) (n : Int) (tags : List Int) (ll : List Ins) (le : List Ins) : growF Tryz.prog env rkfOrc 1000000 10 ([aX r a b n tags ll le]) ([]) rkfSc = rkfTree r a b n tags ll le := by kernel_rfl

/- rkt: 431 steps -/
def rktOrc : Orc := orcL trueCall ledK [] [] []
def rktSc : Sc := .fin
noncomputable def rktTree (n : Int) : Tree :=
  (.call ⟨27, [AV.agg [AV.p (PV.sc (Value.int IntKind.i64 65)), AV.p (PV.sc (Value.int IntKind.i64 0)), AV.p (PV.sc (Value.int IntKind.u32 0)), AV.p (PV.sc (Value.int IntKind.u32 0)), AV.p (PV.sc (Value.int IntKind.i32 n)), AV.p (PV.ps 0 1 []), AV.p (PV.ps 0 8 []), AV.p (PV.ps 0 8 [])]], [], AV.p (PV.sc (Value.bool true)), []⟩
   (.out (Out.ret (AV.p (PV.sc (Value.int IntKind.i64 0))) [])))
theorem rkt_tree (n : Int) : growF Tryz.prog env rktOrc 1000000 10 ([aN n]) ([]) rktSc = rktTree n := by kernel_rfl

/- vcn: 95 steps -/
def vcnOrc (l : List Ins) (ck : Int) : Orc := orcL (ckCall l ck) noLed [] [(5, 2, 4), (5, 2, 11), (5, 0, 0)] [(5, 2, 5), (5, 2, 7), (5, 4, 1), (5, 4, 3)]
def vcnSc : Sc := (.fork (.lit (.lit .fin)) (.fork (.lit .fin) .fin))
noncomputable def vcnTree (l : List Ins) (ck : Int) : Tree :=
  (.test ((↑l.length : Int) != 1)
   (.out (Out.ret (AV.tup [AV.p (PV.sc (Value.int IntKind.u32 0)), AV.p (PV.sc (Value.int IntKind.i64 210))]) []))
   (.must (inB 0 l.length && true && true)
    (.must (isInt IntKind.i64 ((encL l).getD 0 PV.bad) && true)
     (.test (pvInt ((encL l).getD 0 PV.bad) != 65)
      (.out (Out.ret (AV.tup [AV.p (PV.sc (Value.int IntKind.u32 0)), AV.p (PV.sc (Value.int IntKind.i64 210))]) []))
      (.call ⟨9, [AV.p (PV.ps l.length 8 (encL l))], [], AV.p (PV.sc (Value.int IntKind.i64 ck)), []⟩
       (.test (ck != 0)
        (.out (Out.ret (AV.tup [AV.p (PV.sc (Value.int IntKind.u32 0)), AV.p (PV.sc (Value.int IntKind.i64 210))]) []))
        (.must (inB 0 l.length && true && true)
         (.must (isInt IntKind.i32 ((encL l).getD 4 PV.bad) && true)
          (.out (Out.ret (AV.tup [AV.p (PV.sc (Value.int IntKind.u32 (IntKind.u32.wrap (pvInt ((encL l).getD 4 PV.bad))))), AV.p (PV.sc (Value.int IntKind.i64 0))]) []))))))))))
theorem vcn_tree (l : List Ins) (ck : Int) : growF Tryz.prog env (vcnOrc l ck) 1000000 5 ([aL l]) ([]) vcnSc = vcnTree l ck := by kernel_rfl

/- rcn: 95 steps -/
def rcnOrc (l : List Ins) (ck : Int) : Orc := orcL (ckCall l ck) noLed [] [(7, 2, 4), (7, 2, 11), (7, 0, 0)] [(7, 2, 5), (7, 2, 7), (7, 4, 1), (7, 4, 3)]
def rcnSc : Sc := (.fork (.lit (.lit .fin)) (.fork (.lit .fin) .fin))
noncomputable def rcnTree (l : List Ins) (ck : Int) : Tree :=
  (.test ((↑l.length : Int) != 1)
   (.out (Out.ret (AV.tup [AV.p (PV.sc (Value.int IntKind.u32 0)), AV.p (PV.sc (Value.int IntKind.i64 210))]) []))
   (.must (inB 0 l.length && true && true)
    (.must (isInt IntKind.i64 ((encL l).getD 0 PV.bad) && true)
     (.test (pvInt ((encL l).getD 0 PV.bad) != 65)
      (.out (Out.ret (AV.tup [AV.p (PV.sc (Value.int IntKind.u32 0)), AV.p (PV.sc (Value.int IntKind.i64 210))]) []))
      (.call ⟨10, [AV.p (PV.ps l.length 8 (encL l))], [], AV.p (PV.sc (Value.int IntKind.i64 ck)), []⟩
       (.test (ck != 0)
        (.out (Out.ret (AV.tup [AV.p (PV.sc (Value.int IntKind.u32 0)), AV.p (PV.sc (Value.int IntKind.i64 210))]) []))
        (.must (inB 0 l.length && true && true)
         (.must (isInt IntKind.i32 ((encL l).getD 4 PV.bad) && true)
          (.out (Out.ret (AV.tup [AV.p (PV.sc (Value.int IntKind.u32 (IntKind.u32.wrap (pvInt ((encL l).getD 4 PV.bad))))), AV.p (PV.sc (Value.int IntKind.i64 0))]) []))))))))))
theorem rcn_tree (l : List Ins) (ck : Int) : growF Tryz.prog env (rcnOrc l ck) 1000000 7 ([aL l]) ([]) rcnSc = rcnTree l ck := by kernel_rfl

/- law: 81 steps -/
def lawOrc (l : List Ins) (n : Int) (u : Int) (e : Int) : Orc := orcL (lawCall l n u e) noLed [] [(3, 0, 0), (3, 6, 4), (3, 6, 9)] []
def lawSc : Sc := (.fork .fin (.fork .fin (.lit .fin)))
noncomputable def lawTree (l : List Ins) (n : Int) (u : Int) (e : Int) : Tree :=
  (.call ⟨4, [AV.p (PV.ps l.length 8 (encL l)), AV.p (PV.sc (Value.int IntKind.i64 2000))], [], AV.p (PV.sc (Value.int IntKind.i64 n)), []⟩
   (.test (decide (n > 2000))
    (.out (Out.ret (AV.p (PV.sc (Value.bool true))) []))
    (.call ⟨6, [AV.p (PV.ps l.length 8 (encL l))], [], AV.p (PV.ps l.length 8 (encL l)), []⟩
     (.call ⟨5, [AV.p (PV.ps l.length 8 (encL l))], [], AV.tup [AV.p (PV.sc (Value.int IntKind.u32 u)), AV.p (PV.sc (Value.int IntKind.i64 e))], []⟩
      (.call ⟨7, [AV.p (PV.ps l.length 8 (encL l))], [], AV.tup [AV.p (PV.sc (Value.int IntKind.u32 u)), AV.p (PV.sc (Value.int IntKind.i64 e))], []⟩
       (.test (u == u)
        (.test (e == e)
         (.call ⟨8, [], [], AV.p (PV.sc (Value.bool true)), []⟩
          (.out (Out.ret (AV.p (PV.sc (Value.bool true))) [])))
         (.out (Out.ret (AV.p (PV.sc (Value.bool false))) [])))
        (.out (Out.ret (AV.p (PV.sc (Value.bool false))) []))))))))
theorem law_tree (l : List Ins) (n : Int) (u : Int) (e : Int) : growF Tryz.prog env (lawOrc l n u e) 1000000 3 ([aL l]) ([]) lawSc = lawTree l n u e := by kernel_rfl

end Go.Proofs.YthnpfilmecibcaaGreatDoor.N
