/-
  The looker, instruction by instruction: those without lists.
  The looker: plain instructions.
  The looker: tables of labels; lists.
-/
import Derived.Test.YtgbphddecpjlhaaGreatDoorMK
import Derived.Test.YtgbphddecpjlhaaGreatDoorML

section
set_option linter.unusedSimpArgs false
set_option linter.unusedVariables false
namespace Go.Proofs.YtgbphddecpjlhaaGreatDoor.N
open Go Go.Am

abbrev tgA (tg : List Int) : AV := .p (.ps tg.length 1 (encT .u32 tg))
def tbS (X : Lx) (R R1 R2 R3 R4 R5 R6 R7 : Rw) (r a b nn : Int) (tg : List Int) (ll le : List Ins) (q : Int) (i k : Nat) (ms : List PV) (t v : Int) : FuncId → Nat → Nat → Option (AV → AV) := shapeAt [(112, 5, 1, sI .u32 t), (112, 7, 0, sI .i64 ((i + 1 : Nat) : Int))]
def tmS (X : Lx) (R R1 R2 R3 R4 R5 R6 R7 : Rw) (q n x : Int) (i k : Nat) (ms : List PV) : FuncId → Nat → Nat → Option (AV → AV) := shapeAt [(112, 11, 1, sI .i64 x), (112, 13, 0, sI .i64 ((i + 1 : Nat) : Int))]
def liS (X : Lx) (R R1 R2 R3 R4 R5 R6 R7 : Rw) (xs : List Ins) (i : Nat) (op r a b nn : Int) (tg : List Int) (ll le : List Ins) : FuncId → Nat → Nat → Option (AV → AV) := shapeAt [(33, 3, 1, aggI op r a b nn tg ll le), (33, 5, 4, sI .i64 (R.nx + 1)), (33, 7, 0, sI .i64 ((i + 1 : Nat) : Int))]
noncomputable def tb0Orc : Orc := orcL noCall noLed [(112, 0), (112, 2)] [] []
def tb0Sc : Sc := .fin
noncomputable def tb0Tree (X : Lx) (R : Rw) (R1 : Rw) (R2 : Rw) (R3 : Rw) (R4 : Rw) (R5 : Rw) (R6 : Rw) (R7 : Rw) (r a b nn : Int) (tg : List Int) (ll : List Ins) (le : List Ins) (q : Int) : Tree :=
 (.at (bodyCfg Tryz.prog env 112 0 [.mp 0 0, sI .i64 q, .mp 2 0, .os none 0 0 [], .p (.ps tg.length 1 (encT IntKind.u32 tg)), sI .i64 (↑tg.length : Int), sI .i64 0] ([lkB X.M X.tP X.tR X.own R.h 1 R.k R.e R.p R.nx, .ob (ObK.gr 135 true) (List.map keepP (List.map AV.p R.cs)), .pc [sP 14, sP r, .sc (.int .u32 a), .sc (.int .u32 b), .sc (.int .i32 nn), .ps tg.length 1 (encT IntKind.u32 tg), .ps ll.length 8 (encL ll), .ps le.length 8 (encL le)]]) 2 55))
theorem tb0_tree (X : Lx) (R : Rw) (R1 : Rw) (R2 : Rw) (R3 : Rw) (R4 : Rw) (R5 : Rw) (R6 : Rw) (R7 : Rw) (r a b nn : Int) (tg : List Int) (ll : List Ins) (le : List Ins) (q : Int) : growF Tryz.prog env tb0Orc 1000000 112 ([AV.mp 0 0, aggI 14 r a b nn tg ll le, sI IntKind.i64 q]) (memIn X R) tb0Sc = tb0Tree X R R1 R2 R3 R4 R5 R6 R7 r a b nn tg ll le q := by kernel_rfl

noncomputable def tbFOrc (X : Lx) (R : Rw) (R1 : Rw) (R2 : Rw) (R3 : Rw) (R4 : Rw) (R5 : Rw) (R6 : Rw) (R7 : Rw) (r a b nn : Int) (tg : List Int) (ll : List Ins) (le : List Ins) (q : Int) (i : Nat) (k : Nat) (ms : List PV) (t v : Int) : Orc := orcS noCall noLed [(112, 0), (112, 2)] [(112, 0, 1)] [(112, 5, 0), (112, 5, 1)] (tbS X R R1 R2 R3 R4 R5 R6 R7 r a b nn tg ll le q i k ms t v)
noncomputable def tbFSc (X : Lx) (R : Rw) (R1 : Rw) (R2 : Rw) (R3 : Rw) (R4 : Rw) (R5 : Rw) (R6 : Rw) (R7 : Rw) (r a b nn : Int) (tg : List Int) (ll : List Ins) (le : List Ins) (q : Int) (i : Nat) (k : Nat) (ms : List PV) (t v : Int) : Sc := (.fork (.ans 109 (sI .i64 v) ([lkB X.M X.tP X.tR X.own R1.h 1 R1.k R1.e R1.p R1.nx, .ob (ObK.gr 135 true) (List.map AV.p R1.cs)]) .fin) (.ans 109 (sI .i64 v) ([lkB X.M X.tP X.tR X.own R1.h 1 R1.k R1.e R1.p R1.nx, .ob (ObK.gr 135 true) (List.map AV.p R1.cs)]) .fin))
noncomputable def tbFTree (X : Lx) (R : Rw) (R1 : Rw) (R2 : Rw) (R3 : Rw) (R4 : Rw) (R5 : Rw) (R6 : Rw) (R7 : Rw) (r a b nn : Int) (tg : List Int) (ll : List Ins) (le : List Ins) (q : Int) (i : Nat) (k : Nat) (ms : List PV) (t v : Int) : Tree :=
 (.test (decide ((↑i : Int) < (↑tg.length : Int)))
 (.must (inB (↑i : Int) tg.length && true && true)
 (.must (isInt IntKind.u32 ((encT IntKind.u32 tg).getD ((↑i : Int).toNat * 1) PV.bad) && true)
 (.need (sI .u32 (pvInt ((encT IntKind.u32 tg).getD ((↑i : Int).toNat * 1) PV.bad)) = sI IntKind.u32 t)
 (.call ⟨109, [.mp 0 0, sI .u32 t, sI .i64 q], [lkB X.M X.tP X.tR X.own R.h 1 R.k R.e R.p R.nx, .ob (ObK.gr 135 true) (List.map keepP (List.map AV.p R.cs))], sI .i64 v, [lkB X.M X.tP X.tR X.own R1.h 1 R1.k R1.e R1.p R1.nx, .ob (ObK.gr 135 true) (List.map AV.p R1.cs)]⟩
 (.need (sI .i64 (IntKind.i64.wrap ((↑i : Int) + 1)) = sI IntKind.i64 (↑(i + 1) : Int))
 (.at (bodyCfg Tryz.prog env 112 0 [.mp 0 0, sI .i64 q, .mp 2 0, .os (some 3) 1 1 [sP v], .p (.ps tg.length 1 (encT IntKind.u32 tg)), sI .i64 (↑tg.length : Int), sI .i64 (↑(i + 1) : Int)] ([lkB X.M X.tP X.tR X.own R1.h 1 R1.k R1.e R1.p R1.nx, .ob (ObK.gr 135 true) (List.map keepP (List.map keepP (List.map AV.p R1.cs))), .pc [sP 14, sP r, .sc (.int .u32 a), .sc (.int .u32 b), .sc (.int .i32 nn), .ps tg.length 1 (encT IntKind.u32 tg), .ps ll.length 8 (encL ll), .ps le.length 8 (encL le)], .tok]) 2 55)))))))
 (.call ⟨109, [.mp 0 0, sI .u32 a, sI .i64 q], [lkB X.M X.tP X.tR X.own R.h 1 R.k R.e R.p R.nx, .ob (ObK.gr 135 true) (List.map keepP (List.map AV.p R.cs))], sI .i64 v, [lkB X.M X.tP X.tR X.own R1.h 1 R1.k R1.e R1.p R1.nx, .ob (ObK.gr 135 true) (List.map AV.p R1.cs)]⟩
 (.at (bodyCfg Tryz.prog env 112 2 [.mp 0 0, sI .i64 q, sI .i64 v, .os none 0 0 [], sI .i64 0, sI .i64 0] ([lkB X.M X.tP X.tR X.own R1.h 1 R1.k R1.e R1.p R1.nx, .ob (ObK.gr 135 true) (List.map keepP (List.map keepP (List.map AV.p R1.cs)))]) 2 55))))
theorem tbF_tree (X : Lx) (R : Rw) (R1 : Rw) (R2 : Rw) (R3 : Rw) (R4 : Rw) (R5 : Rw) (R6 : Rw) (R7 : Rw) (r a b nn : Int) (tg : List Int) (ll : List Ins) (le : List Ins) (q : Int) (i : Nat) (k : Nat) (ms : List PV) (t v : Int) : grow Tryz.prog env (tbFOrc X R R1 R2 R3 R4 R5 R6 R7 r a b nn tg ll le q i k ms t v) 1000000 true (bodyCfg Tryz.prog env 112 0 ([AV.mp 0 0, sI IntKind.i64 q, AV.mp 2 0, AV.os Option.none 0 0 [], tgA tg, sI IntKind.i64 (↑tg.length : Int), sI IntKind.i64 (↑i : Int)]) (memIn X R ++ [Blk.pc [PV.sc (Value.int IntKind.i64 14), PV.sc (Value.int IntKind.i64 r), PV.sc (Value.int IntKind.u32 a), PV.sc (Value.int IntKind.u32 b), PV.sc (Value.int IntKind.i32 nn), PV.ps tg.length 1 (encT IntKind.u32 tg), PV.ps ll.length 8 (encL ll), PV.ps le.length 8 (encL le)]]) 2 55) (tbFSc X R R1 R2 R3 R4 R5 R6 R7 r a b nn tg ll le q i k ms t v) atEnd = tbFTree X R R1 R2 R3 R4 R5 R6 R7 r a b nn tg ll le q i k ms t v := by kernel_rfl

noncomputable def tbLOrc (X : Lx) (R : Rw) (R1 : Rw) (R2 : Rw) (R3 : Rw) (R4 : Rw) (R5 : Rw) (R6 : Rw) (R7 : Rw) (r a b nn : Int) (tg : List Int) (ll : List Ins) (le : List Ins) (q : Int) (i : Nat) (k : Nat) (ms : List PV) (t v : Int) : Orc := orcS noCall noLed [(112, 0), (112, 2)] [(112, 0, 1)] [(112, 5, 0), (112, 5, 1), (112, 6, 6)] (tbS X R R1 R2 R3 R4 R5 R6 R7 r a b nn tg ll le q i k ms t v)
noncomputable def tbLSc (X : Lx) (R : Rw) (R1 : Rw) (R2 : Rw) (R3 : Rw) (R4 : Rw) (R5 : Rw) (R6 : Rw) (R7 : Rw) (r a b nn : Int) (tg : List Int) (ll : List Ins) (le : List Ins) (q : Int) (i : Nat) (k : Nat) (ms : List PV) (t v : Int) : Sc := (.fork (.ans 109 (sI .i64 v) ([lkB X.M X.tP X.tR X.own R1.h 1 R1.k R1.e R1.p R1.nx, .ob (ObK.gr 135 true) (List.map AV.p R1.cs)]) .fin) (.ans 109 (sI .i64 v) ([lkB X.M X.tP X.tR X.own R1.h 1 R1.k R1.e R1.p R1.nx, .ob (ObK.gr 135 true) (List.map AV.p R1.cs)]) .fin))
noncomputable def tbLTree (X : Lx) (R : Rw) (R1 : Rw) (R2 : Rw) (R3 : Rw) (R4 : Rw) (R5 : Rw) (R6 : Rw) (R7 : Rw) (r a b nn : Int) (tg : List Int) (ll : List Ins) (le : List Ins) (q : Int) (i : Nat) (k : Nat) (ms : List PV) (t v : Int) : Tree :=
 (.test (decide ((↑i : Int) < (↑tg.length : Int)))
 (.must (inB (↑i : Int) tg.length && true && true)
 (.must (isInt IntKind.u32 ((encT IntKind.u32 tg).getD ((↑i : Int).toNat * 1) PV.bad) && true)
 (.need (sI .u32 (pvInt ((encT IntKind.u32 tg).getD ((↑i : Int).toNat * 1) PV.bad)) = sI IntKind.u32 t)
 (.call ⟨109, [.mp 0 0, sI .u32 t, sI .i64 q], [lkB X.M X.tP X.tR X.own R.h 1 R.k R.e R.p R.nx, .ob (ObK.gr 135 true) (List.map keepP (List.map AV.p R.cs))], sI .i64 v, [lkB X.M X.tP X.tR X.own R1.h 1 R1.k R1.e R1.p R1.nx, .ob (ObK.gr 135 true) (List.map AV.p R1.cs)]⟩
 (.must (((k + 1) * 8).ble lim && (k + 1).ble lim && true)
 (.need (sI .i64 (IntKind.i64.wrap ((↑i : Int) + 1)) = sI IntKind.i64 (↑(i + 1) : Int))
 (.at (bodyCfg Tryz.prog env 112 0 [.mp 0 0, sI .i64 q, .mp 2 0, .os (some 3) (k + 1) 1 (ms ++ [sP v]), .p (.ps tg.length 1 (encT IntKind.u32 tg)), sI .i64 (↑tg.length : Int), sI .i64 (↑(i + 1) : Int)] ([lkB X.M X.tP X.tR X.own R1.h 1 R1.k R1.e R1.p R1.nx, .ob (ObK.gr 135 true) (List.map keepP (List.map keepP (List.map AV.p R1.cs))), .pc [sP 14, sP r, .sc (.int .u32 a), .sc (.int .u32 b), .sc (.int .i32 nn), .ps tg.length 1 (encT IntKind.u32 tg), .ps ll.length 8 (encL ll), .ps le.length 8 (encL le)], .tok]) 2 55))))))))
 (.call ⟨109, [.mp 0 0, sI .u32 a, sI .i64 q], [lkB X.M X.tP X.tR X.own R.h 1 R.k R.e R.p R.nx, .ob (ObK.gr 135 true) (List.map keepP (List.map AV.p R.cs))], sI .i64 v, [lkB X.M X.tP X.tR X.own R1.h 1 R1.k R1.e R1.p R1.nx, .ob (ObK.gr 135 true) (List.map AV.p R1.cs)]⟩
 (.at (bodyCfg Tryz.prog env 112 2 [.mp 0 0, sI .i64 q, sI .i64 v, .os (some 2) k 1 ms, sI .i64 (↑k : Int), sI .i64 0] ([lkB X.M X.tP X.tR X.own R1.h 1 R1.k R1.e R1.p R1.nx, .ob (ObK.gr 135 true) (List.map keepP (List.map keepP (List.map AV.p R1.cs))), .tok]) 2 55))))
theorem tbL_tree (X : Lx) (R : Rw) (R1 : Rw) (R2 : Rw) (R3 : Rw) (R4 : Rw) (R5 : Rw) (R6 : Rw) (R7 : Rw) (r a b nn : Int) (tg : List Int) (ll : List Ins) (le : List Ins) (q : Int) (i : Nat) (k : Nat) (ms : List PV) (t v : Int) : grow Tryz.prog env (tbLOrc X R R1 R2 R3 R4 R5 R6 R7 r a b nn tg ll le q i k ms t v) 1000000 true (bodyCfg Tryz.prog env 112 0 ([AV.mp 0 0, sI IntKind.i64 q, AV.mp 2 0, AV.os (Option.some 3) k 1 ms, tgA tg, sI IntKind.i64 (↑tg.length : Int), sI IntKind.i64 (↑i : Int)]) (memIn X R ++ [Blk.pc [PV.sc (Value.int IntKind.i64 14), PV.sc (Value.int IntKind.i64 r), PV.sc (Value.int IntKind.u32 a), PV.sc (Value.int IntKind.u32 b), PV.sc (Value.int IntKind.i32 nn), PV.ps tg.length 1 (encT IntKind.u32 tg), PV.ps ll.length 8 (encL ll), PV.ps le.length 8 (encL le)], Blk.tok]) 2 55) (tbLSc X R R1 R2 R3 R4 R5 R6 R7 r a b nn tg ll le q i k ms t v) atEnd = tbLTree X R R1 R2 R3 R4 R5 R6 R7 r a b nn tg ll le q i k ms t v := by kernel_rfl

noncomputable def tmFOrc (X : Lx) (R : Rw) (R1 : Rw) (R2 : Rw) (R3 : Rw) (R4 : Rw) (R5 : Rw) (R6 : Rw) (R7 : Rw) (q n x : Int) (i : Nat) (k : Nat) (ms : List PV) : Orc := orcS noCall noLed [(112, 0), (112, 2)] [] [] (tmS X R R1 R2 R3 R4 R5 R6 R7 q n x i k ms)
noncomputable def tmFSc (X : Lx) (R : Rw) (R1 : Rw) (R2 : Rw) (R3 : Rw) (R4 : Rw) (R5 : Rw) (R6 : Rw) (R7 : Rw) (q n x : Int) (i : Nat) (k : Nat) (ms : List PV) : Sc := (.ans 110 (.tup []) ([lkB X.M X.tP X.tR X.own R1.h 2 R1.k R1.e R1.p R1.nx, .dead, .ob (ObK.gr 135 true) (List.map AV.p R1.cs)]) (.ans 110 (.tup []) ([lkB X.M X.tP X.tR X.own R2.h 2 R2.k R2.e R2.p R2.nx, .dead, .ob (ObK.gr 135 true) (List.map AV.p R2.cs)]) (.ans 107 (.tup []) ([lkB X.M X.tP X.tR X.own R3.h 2 R3.k R3.e R3.p R3.nx, .dead, .ob (ObK.gr 135 true) (List.map AV.p R3.cs)]) .fin)))
noncomputable def tmFTree (X : Lx) (R : Rw) (R1 : Rw) (R2 : Rw) (R3 : Rw) (R4 : Rw) (R5 : Rw) (R6 : Rw) (R7 : Rw) (q n x : Int) (i : Nat) (k : Nat) (ms : List PV) : Tree :=
 (.call ⟨110, [.mp 0 0, sI .i64 1, sI .i64 q], [lkB X.M X.tP X.tR X.own R.h 1 R.k R.e R.p R.nx, .ob (ObK.gr 135 true) (List.map keepP (List.map AV.p R.cs))], .tup [], [lkB X.M X.tP X.tR X.own R1.h 2 R1.k R1.e R1.p R1.nx, .dead, .ob (ObK.gr 135 true) (List.map AV.p R1.cs)]⟩
 (.call ⟨110, [.mp 0 0, sI .i64 n, sI .i64 q], [lkB X.M X.tP X.tR X.own R1.h 1 R1.k R1.e R1.p R1.nx, .ob (ObK.gr 135 true) (List.map keepP (List.map keepP (List.map AV.p R1.cs)))], .tup [], [lkB X.M X.tP X.tR X.own R2.h 2 R2.k R2.e R2.p R2.nx, .dead, .ob (ObK.gr 135 true) (List.map AV.p R2.cs)]⟩
 (.call ⟨107, [.mp 0 0, sI .i64 q], [lkB X.M X.tP X.tR X.own R2.h 1 R2.k R2.e R2.p R2.nx, .ob (ObK.gr 135 true) (List.map keepP (List.map keepP (List.map AV.p R2.cs)))], .tup [], [lkB X.M X.tP X.tR X.own R3.h 2 R3.k R3.e R3.p R3.nx, .dead, .ob (ObK.gr 135 true) (List.map AV.p R3.cs)]⟩
 (.out (.ret (.tup []) [lkB X.M X.tP X.tR X.own R3.h 2 R3.k R3.e R3.p R3.nx, .dead, .ob (ObK.gr 135 true) (List.map keepP (List.map keepP (List.map AV.p R3.cs)))])))))
theorem tmF_tree (X : Lx) (R : Rw) (R1 : Rw) (R2 : Rw) (R3 : Rw) (R4 : Rw) (R5 : Rw) (R6 : Rw) (R7 : Rw) (q n x : Int) (i : Nat) (k : Nat) (ms : List PV) : grow Tryz.prog env (tmFOrc X R R1 R2 R3 R4 R5 R6 R7 q n x i k ms) 1000000 true (bodyCfg Tryz.prog env 112 2 ([AV.mp 0 0, sI IntKind.i64 q, sI IntKind.i64 n, AV.os Option.none 0 0 [], sI IntKind.i64 0, sI IntKind.i64 (↑i : Int)]) (memIn X R) 2 55) (tmFSc X R R1 R2 R3 R4 R5 R6 R7 q n x i k ms) atEnd = tmFTree X R R1 R2 R3 R4 R5 R6 R7 q n x i k ms := by kernel_rfl

noncomputable def tmLOrc (X : Lx) (R : Rw) (R1 : Rw) (R2 : Rw) (R3 : Rw) (R4 : Rw) (R5 : Rw) (R6 : Rw) (R7 : Rw) (q n x : Int) (i : Nat) (k : Nat) (ms : List PV) : Orc := orcS noCall noLed [(112, 0), (112, 2)] [(112, 0, 3)] [(112, 11, 0), (112, 11, 1)] (tmS X R R1 R2 R3 R4 R5 R6 R7 q n x i k ms)
noncomputable def tmLSc (X : Lx) (R : Rw) (R1 : Rw) (R2 : Rw) (R3 : Rw) (R4 : Rw) (R5 : Rw) (R6 : Rw) (R7 : Rw) (q n x : Int) (i : Nat) (k : Nat) (ms : List PV) : Sc := (.fork (.ans 113 (.tup []) ([lkB X.M X.tP X.tR X.own R1.h 1 R1.k R1.e R1.p R1.nx, .ob (ObK.gr 135 true) (List.map AV.p R1.cs)]) .fin) (.ans 110 (.tup []) ([lkB X.M X.tP X.tR X.own R1.h 2 R1.k R1.e R1.p R1.nx, .dead, .ob (ObK.gr 135 true) (List.map AV.p R1.cs)]) (.ans 110 (.tup []) ([lkB X.M X.tP X.tR X.own R2.h 2 R2.k R2.e R2.p R2.nx, .dead, .ob (ObK.gr 135 true) (List.map AV.p R2.cs)]) (.ans 107 (.tup []) ([lkB X.M X.tP X.tR X.own R3.h 2 R3.k R3.e R3.p R3.nx, .dead, .ob (ObK.gr 135 true) (List.map AV.p R3.cs)]) .fin))))
noncomputable def tmLTree (X : Lx) (R : Rw) (R1 : Rw) (R2 : Rw) (R3 : Rw) (R4 : Rw) (R5 : Rw) (R6 : Rw) (R7 : Rw) (q n x : Int) (i : Nat) (k : Nat) (ms : List PV) : Tree :=
 (.test (decide ((↑i : Int) < (↑k : Int)))
 (.must (inB (↑i : Int) k && true && true)
 (.must (isInt IntKind.i64 (ms.getD ((↑i : Int).toNat * 1) PV.bad) && true)
 (.need (sI .i64 (pvInt (ms.getD ((↑i : Int).toNat * 1) PV.bad)) = sI IntKind.i64 x)
 (.call ⟨113, [.mp 0 0, .p (.sc (.bool (x == n))), sI .i64 214, sI .i64 q], [lkB X.M X.tP X.tR X.own R.h 1 R.k R.e R.p R.nx, .ob (ObK.gr 135 true) (List.map keepP (List.map AV.p R.cs))], .tup [], [lkB X.M X.tP X.tR X.own R1.h 1 R1.k R1.e R1.p R1.nx, .ob (ObK.gr 135 true) (List.map AV.p R1.cs)]⟩
 (.need (sI .i64 (IntKind.i64.wrap ((↑i : Int) + 1)) = sI IntKind.i64 (↑(i + 1) : Int))
 (.at (bodyCfg Tryz.prog env 112 2 [.mp 0 0, sI .i64 q, sI .i64 n, .os (some 2) k 1 ms, sI .i64 (↑k : Int), sI .i64 (↑(i + 1) : Int)] ([lkB X.M X.tP X.tR X.own R1.h 1 R1.k R1.e R1.p R1.nx, .ob (ObK.gr 135 true) (List.map keepP (List.map keepP (List.map AV.p R1.cs))), .tok]) 2 55)))))))
 (.call ⟨110, [.mp 0 0, sI .i64 1, sI .i64 q], [lkB X.M X.tP X.tR X.own R.h 1 R.k R.e R.p R.nx, .ob (ObK.gr 135 true) (List.map keepP (List.map AV.p R.cs))], .tup [], [lkB X.M X.tP X.tR X.own R1.h 2 R1.k R1.e R1.p R1.nx, .dead, .ob (ObK.gr 135 true) (List.map AV.p R1.cs)]⟩
 (.call ⟨110, [.mp 0 0, sI .i64 n, sI .i64 q], [lkB X.M X.tP X.tR X.own R1.h 1 R1.k R1.e R1.p R1.nx, .ob (ObK.gr 135 true) (List.map keepP (List.map keepP (List.map AV.p R1.cs)))], .tup [], [lkB X.M X.tP X.tR X.own R2.h 2 R2.k R2.e R2.p R2.nx, .dead, .ob (ObK.gr 135 true) (List.map AV.p R2.cs)]⟩
 (.call ⟨107, [.mp 0 0, sI .i64 q], [lkB X.M X.tP X.tR X.own R2.h 1 R2.k R2.e R2.p R2.nx, .ob (ObK.gr 135 true) (List.map keepP (List.map keepP (List.map AV.p R2.cs)))], .tup [], [lkB X.M X.tP X.tR X.own R3.h 2 R3.k R3.e R3.p R3.nx, .dead, .ob (ObK.gr 135 true) (List.map AV.p R3.cs)]⟩
 (.out (.ret (.tup []) [lkB X.M X.tP X.tR X.own R3.h 2 R3.k R3.e R3.p R3.nx, .dead, .ob (ObK.gr 135 true) (List.map keepP (List.map keepP (List.map AV.p R3.cs)))]))))))
theorem tmL_tree (X : Lx) (R : Rw) (R1 : Rw) (R2 : Rw) (R3 : Rw) (R4 : Rw) (R5 : Rw) (R6 : Rw) (R7 : Rw) (q n x : Int) (i : Nat) (k : Nat) (ms : List PV) : grow Tryz.prog env (tmLOrc X R R1 R2 R3 R4 R5 R6 R7 q n x i k ms) 1000000 true (bodyCfg Tryz.prog env 112 2 ([AV.mp 0 0, sI IntKind.i64 q, sI IntKind.i64 n, AV.os (Option.some 2) k 1 ms, sI IntKind.i64 (↑k : Int), sI IntKind.i64 (↑i : Int)]) (memIn X R ++ [Blk.tok]) 2 55) (tmLSc X R R1 R2 R3 R4 R5 R6 R7 q n x i k ms) atEnd = tmLTree X R R1 R2 R3 R4 R5 R6 R7 q n x i k ms := by kernel_rfl

noncomputable def li0Orc : Orc := orcL noCall noLed [(33, 0)] [] []
def li0Sc : Sc := .fin
noncomputable def li0Tree (X : Lx) (R : Rw) (R1 : Rw) (R2 : Rw) (R3 : Rw) (R4 : Rw) (R5 : Rw) (R6 : Rw) (R7 : Rw) (xs : List Ins) : Tree :=
 (.at (bodyCfg Tryz.prog env 33 0 [.mp 0 0, .p (.ps xs.length 8 (encL xs)), sI .i64 (↑xs.length : Int), sI .i64 0] ([lkB X.M X.tP X.tR X.own R.h 1 R.k R.e R.p R.nx, .ob (ObK.gr 135 true) (List.map keepP (List.map AV.p R.cs))]) 2 32))
theorem li0_tree (X : Lx) (R : Rw) (R1 : Rw) (R2 : Rw) (R3 : Rw) (R4 : Rw) (R5 : Rw) (R6 : Rw) (R7 : Rw) (xs : List Ins) : growF Tryz.prog env li0Orc 1000000 33 ([AV.mp 0 0, aL xs]) (memIn X R) li0Sc = li0Tree X R R1 R2 R3 R4 R5 R6 R7 xs := by kernel_rfl

noncomputable def liFOrc (X : Lx) (R : Rw) (R1 : Rw) (R2 : Rw) (R3 : Rw) (R4 : Rw) (R5 : Rw) (R6 : Rw) (R7 : Rw) (xs : List Ins) (i : Nat) (op r a b nn : Int) (tg : List Int) (ll : List Ins) (le : List Ins) : Orc := orcS noCall noLed [(33, 0)] [(33, 0, 1), (33, 0, 2)] [(33, 3, 0), (33, 3, 1)] (liS X R R1 R2 R3 R4 R5 R6 R7 xs i op r a b nn tg ll le)
noncomputable def liFSc (X : Lx) (R : Rw) (R1 : Rw) (R2 : Rw) (R3 : Rw) (R4 : Rw) (R5 : Rw) (R6 : Rw) (R7 : Rw) (xs : List Ins) (i : Nat) (op r a b nn : Int) (tg : List Int) (ll : List Ins) (le : List Ins) : Sc := (.fork (.fork .fin (.ans 83 (.tup []) ([lkB X.M X.tP X.tR X.own R1.h 2 R1.k R1.e R1.p R1.nx, .dead, .ob (ObK.gr 135 true) (List.map AV.p R1.cs)]) .fin)) .fin)
noncomputable def liFTree (X : Lx) (R : Rw) (R1 : Rw) (R2 : Rw) (R3 : Rw) (R4 : Rw) (R5 : Rw) (R6 : Rw) (R7 : Rw) (xs : List Ins) (i : Nat) (op r a b nn : Int) (tg : List Int) (ll : List Ins) (le : List Ins) : Tree :=
 (.test (decide ((↑i : Int) < (↑xs.length : Int)))
 (.must (inB (↑i : Int) xs.length && true && true)
 (.must (isInt IntKind.i64 ((encL xs).getD ((↑i : Int).toNat * 8) PV.bad) && (isInt IntKind.i64 ((encL xs).getD ((↑i : Int).toNat * 8 + 1) PV.bad) && (isInt IntKind.u32 ((encL xs).getD ((↑i : Int).toNat * 8 + 1 + 1) PV.bad) && (isInt IntKind.u32 ((encL xs).getD ((↑i : Int).toNat * 8 + 1 + 1 + 1) PV.bad) && (isInt IntKind.i32 ((encL xs).getD ((↑i : Int).toNat * 8 + 1 + 1 + 1 + 1) PV.bad) && (isPs ((encL xs).getD ((↑i : Int).toNat * 8 + 1 + 1 + 1 + 1 + 1) PV.bad) && (isPs ((encL xs).getD ((↑i : Int).toNat * 8 + 1 + 1 + 1 + 1 + 1 + 1) PV.bad) && (isPs ((encL xs).getD ((↑i : Int).toNat * 8 + 1 + 1 + 1 + 1 + 1 + 1 + 1) PV.bad) && true))))))) && true)
 (.need (AV.agg [sI .i64 (pvInt ((encL xs).getD ((↑i : Int).toNat * 8) PV.bad)), sI .i64 (pvInt ((encL xs).getD ((↑i : Int).toNat * 8 + 1) PV.bad)), sI .u32 (pvInt ((encL xs).getD ((↑i : Int).toNat * 8 + 1 + 1) PV.bad)), sI .u32 (pvInt ((encL xs).getD ((↑i : Int).toNat * 8 + 1 + 1 + 1) PV.bad)), sI .i32 (pvInt ((encL xs).getD ((↑i : Int).toNat * 8 + 1 + 1 + 1 + 1) PV.bad)), AV.p (PV.ps (psLen ((encL xs).getD ((↑i : Int).toNat * 8 + 1 + 1 + 1 + 1 + 1) PV.bad)) (psSz ((encL xs).getD ((↑i : Int).toNat * 8 + 1 + 1 + 1 + 1 + 1) PV.bad)) (psCells ((encL xs).getD ((↑i : Int).toNat * 8 + 1 + 1 + 1 + 1 + 1) PV.bad))), AV.p (PV.ps (psLen ((encL xs).getD ((↑i : Int).toNat * 8 + 1 + 1 + 1 + 1 + 1 + 1) PV.bad)) (psSz ((encL xs).getD ((↑i : Int).toNat * 8 + 1 + 1 + 1 + 1 + 1 + 1) PV.bad)) (psCells ((encL xs).getD ((↑i : Int).toNat * 8 + 1 + 1 + 1 + 1 + 1 + 1) PV.bad))), AV.p (PV.ps (psLen ((encL xs).getD ((↑i : Int).toNat * 8 + 1 + 1 + 1 + 1 + 1 + 1 + 1) PV.bad)) (psSz ((encL xs).getD ((↑i : Int).toNat * 8 + 1 + 1 + 1 + 1 + 1 + 1 + 1) PV.bad)) (psCells ((encL xs).getD ((↑i : Int).toNat * 8 + 1 + 1 + 1 + 1 + 1 + 1 + 1) PV.bad)))] = aggI op r a b nn tg ll le)
 (.test (R.e != 0)
 (.out (.ret (.tup []) [lkB X.M X.tP X.tR X.own R.h 1 R.k R.e R.p R.nx, .ob (ObK.gr 135 true) (List.map keepP (List.map AV.p R.cs))]))
 (.need (sI .i64 (IntKind.i64.wrap (R.nx + 1)) = sI IntKind.i64 (R.nx + 1))
 (.call ⟨83, [.mp 0 0, .agg [sI .i64 op, sI .i64 r, sI .u32 a, sI .u32 b, sI .i32 nn, .p (.ps tg.length 1 (encT IntKind.u32 tg)), .p (.ps ll.length 8 (encL ll)), .p (.ps le.length 8 (encL le))], sI .i64 (R.nx + 1)], [lkB X.M X.tP X.tR X.own R.h 1 R.k R.e R.p (R.nx + 1), .ob (ObK.gr 135 true) (List.map keepP (List.map AV.p R.cs))], .tup [], [lkB X.M X.tP X.tR X.own R1.h 2 R1.k R1.e R1.p R1.nx, .dead, .ob (ObK.gr 135 true) (List.map AV.p R1.cs)]⟩
 (.need (sI .i64 (IntKind.i64.wrap ((↑i : Int) + 1)) = sI IntKind.i64 (↑(i + 1) : Int))
 (.at (bodyCfg Tryz.prog env 33 0 [.mp 0 0, .p (.ps xs.length 8 (encL xs)), sI .i64 (↑xs.length : Int), sI .i64 (↑(i + 1) : Int)] ([lkB X.M X.tP X.tR X.own R1.h 2 R1.k R1.e R1.p R1.nx, .dead, .ob (ObK.gr 135 true) (List.map keepP (List.map keepP (List.map AV.p R1.cs)))]) 2 32)))))))))
 (.out (.ret (.tup []) [lkB X.M X.tP X.tR X.own R.h 1 R.k R.e R.p R.nx, .ob (ObK.gr 135 true) (List.map keepP (List.map AV.p R.cs))])))
theorem liF_tree (X : Lx) (R : Rw) (R1 : Rw) (R2 : Rw) (R3 : Rw) (R4 : Rw) (R5 : Rw) (R6 : Rw) (R7 : Rw) (xs : List Ins) (i : Nat) (op r a b nn : Int) (tg : List Int) (ll : List Ins) (le : List Ins) : grow Tryz.prog env (liFOrc X R R1 R2 R3 R4 R5 R6 R7 xs i op r a b nn tg ll le) 1000000 true (bodyCfg Tryz.prog env 33 0 ([AV.mp 0 0, aL xs, sI IntKind.i64 (↑xs.length : Int), sI IntKind.i64 (↑i : Int)]) (memIn X R) 2 32) (liFSc X R R1 R2 R3 R4 R5 R6 R7 xs i op r a b nn tg ll le) atEnd = liFTree X R R1 R2 R3 R4 R5 R6 R7 xs i op r a b nn tg ll le := by kernel_rfl

noncomputable def liLOrc (X : Lx) (R : Rw) (R1 : Rw) (R2 : Rw) (R3 : Rw) (R4 : Rw) (R5 : Rw) (R6 : Rw) (R7 : Rw) (xs : List Ins) (i : Nat) (op r a b nn : Int) (tg : List Int) (ll : List Ins) (le : List Ins) : Orc := orcS noCall noLed [(33, 0)] [(33, 0, 1), (33, 0, 2)] [(33, 3, 0), (33, 3, 1)] (liS X R R1 R2 R3 R4 R5 R6 R7 xs i op r a b nn tg ll le)
noncomputable def liLSc (X : Lx) (R : Rw) (R1 : Rw) (R2 : Rw) (R3 : Rw) (R4 : Rw) (R5 : Rw) (R6 : Rw) (R7 : Rw) (xs : List Ins) (i : Nat) (op r a b nn : Int) (tg : List Int) (ll : List Ins) (le : List Ins) : Sc := (.fork (.fork .fin (.ans 83 (.tup []) ([lkB X.M X.tP X.tR X.own R1.h 2 R1.k R1.e R1.p R1.nx, .dead, .ob (ObK.gr 135 true) (List.map AV.p R1.cs)]) .fin)) .fin)
noncomputable def liLTree (X : Lx) (R : Rw) (R1 : Rw) (R2 : Rw) (R3 : Rw) (R4 : Rw) (R5 : Rw) (R6 : Rw) (R7 : Rw) (xs : List Ins) (i : Nat) (op r a b nn : Int) (tg : List Int) (ll : List Ins) (le : List Ins) : Tree :=
 (.test (decide ((↑i : Int) < (↑xs.length : Int)))
 (.must (inB (↑i : Int) xs.length && true && true)
 (.must (isInt IntKind.i64 ((encL xs).getD ((↑i : Int).toNat * 8) PV.bad) && (isInt IntKind.i64 ((encL xs).getD ((↑i : Int).toNat * 8 + 1) PV.bad) && (isInt IntKind.u32 ((encL xs).getD ((↑i : Int).toNat * 8 + 1 + 1) PV.bad) && (isInt IntKind.u32 ((encL xs).getD ((↑i : Int).toNat * 8 + 1 + 1 + 1) PV.bad) && (isInt IntKind.i32 ((encL xs).getD ((↑i : Int).toNat * 8 + 1 + 1 + 1 + 1) PV.bad) && (isPs ((encL xs).getD ((↑i : Int).toNat * 8 + 1 + 1 + 1 + 1 + 1) PV.bad) && (isPs ((encL xs).getD ((↑i : Int).toNat * 8 + 1 + 1 + 1 + 1 + 1 + 1) PV.bad) && (isPs ((encL xs).getD ((↑i : Int).toNat * 8 + 1 + 1 + 1 + 1 + 1 + 1 + 1) PV.bad) && true))))))) && true)
 (.need (AV.agg [sI .i64 (pvInt ((encL xs).getD ((↑i : Int).toNat * 8) PV.bad)), sI .i64 (pvInt ((encL xs).getD ((↑i : Int).toNat * 8 + 1) PV.bad)), sI .u32 (pvInt ((encL xs).getD ((↑i : Int).toNat * 8 + 1 + 1) PV.bad)), sI .u32 (pvInt ((encL xs).getD ((↑i : Int).toNat * 8 + 1 + 1 + 1) PV.bad)), sI .i32 (pvInt ((encL xs).getD ((↑i : Int).toNat * 8 + 1 + 1 + 1 + 1) PV.bad)), AV.p (PV.ps (psLen ((encL xs).getD ((↑i : Int).toNat * 8 + 1 + 1 + 1 + 1 + 1) PV.bad)) (psSz ((encL xs).getD ((↑i : Int).toNat * 8 + 1 + 1 + 1 + 1 + 1) PV.bad)) (psCells ((encL xs).getD ((↑i : Int).toNat * 8 + 1 + 1 + 1 + 1 + 1) PV.bad))), AV.p (PV.ps (psLen ((encL xs).getD ((↑i : Int).toNat * 8 + 1 + 1 + 1 + 1 + 1 + 1) PV.bad)) (psSz ((encL xs).getD ((↑i : Int).toNat * 8 + 1 + 1 + 1 + 1 + 1 + 1) PV.bad)) (psCells ((encL xs).getD ((↑i : Int).toNat * 8 + 1 + 1 + 1 + 1 + 1 + 1) PV.bad))), AV.p (PV.ps (psLen ((encL xs).getD ((↑i : Int).toNat * 8 + 1 + 1 + 1 + 1 + 1 + 1 + 1) PV.bad)) (psSz ((encL xs).getD ((↑i : Int).toNat * 8 + 1 + 1 + 1 + 1 + 1 + 1 + 1) PV.bad)) (psCells ((encL xs).getD ((↑i : Int).toNat * 8 + 1 + 1 + 1 + 1 + 1 + 1 + 1) PV.bad)))] = aggI op r a b nn tg ll le)
 (.test (R.e != 0)
 (.out (.ret (.tup []) [lkB X.M X.tP X.tR X.own R.h 2 R.k R.e R.p R.nx, .dead, .ob (ObK.gr 135 true) (List.map keepP (List.map AV.p R.cs))]))
 (.need (sI .i64 (IntKind.i64.wrap (R.nx + 1)) = sI IntKind.i64 (R.nx + 1))
 (.call ⟨83, [.mp 0 0, .agg [sI .i64 op, sI .i64 r, sI .u32 a, sI .u32 b, sI .i32 nn, .p (.ps tg.length 1 (encT IntKind.u32 tg)), .p (.ps ll.length 8 (encL ll)), .p (.ps le.length 8 (encL le))], sI .i64 (R.nx + 1)], [lkB X.M X.tP X.tR X.own R.h 1 R.k R.e R.p (R.nx + 1), .ob (ObK.gr 135 true) (List.map keepP (List.map AV.p R.cs))], .tup [], [lkB X.M X.tP X.tR X.own R1.h 2 R1.k R1.e R1.p R1.nx, .dead, .ob (ObK.gr 135 true) (List.map AV.p R1.cs)]⟩
 (.need (sI .i64 (IntKind.i64.wrap ((↑i : Int) + 1)) = sI IntKind.i64 (↑(i + 1) : Int))
 (.at (bodyCfg Tryz.prog env 33 0 [.mp 0 0, .p (.ps xs.length 8 (encL xs)), sI .i64 (↑xs.length : Int), sI .i64 (↑(i + 1) : Int)] ([lkB X.M X.tP X.tR X.own R1.h 2 R1.k R1.e R1.p R1.nx, .dead, .ob (ObK.gr 135 true) (List.map keepP (List.map keepP (List.map AV.p R1.cs)))]) 2 32)))))))))
 (.out (.ret (.tup []) [lkB X.M X.tP X.tR X.own R.h 2 R.k R.e R.p R.nx, .dead, .ob (ObK.gr 135 true) (List.map keepP (List.map AV.p R.cs))])))
theorem liL_tree (X : Lx) (R : Rw) (R1 : Rw) (R2 : Rw) (R3 : Rw) (R4 : Rw) (R5 : Rw) (R6 : Rw) (R7 : Rw) (xs : List Ins) (i : Nat) (op r a b nn : Int) (tg : List Int) (ll : List Ins) (le : List Ins) : grow Tryz.prog env (liLOrc X R R1 R2 R3 R4 R5 R6 R7 xs i op r a b nn tg ll le) 1000000 true (bodyCfg Tryz.prog env 33 0 ([AV.mp 0 0, aL xs, sI IntKind.i64 (↑xs.length : Int), sI IntKind.i64 (↑i : Int)]) (memOut X R) 2 32) (liLSc X R R1 R2 R3 R4 R5 R6 R7 xs i op r a b nn tg ll le) atEnd = liLTree X R R1 R2 R3 R4 R5 R6 R7 xs i op r a b nn tg ll le := by kernel_rfl

structure VOk (X : Lx) (V : VEnv) : Prop where
  ret : X.tR = V.ret
  ret1 : V.ret ≤ 1
  own : X.own = V.own
  own1 : V.own ≤ 1000000000
  ty : ∀ a : Nat, a < 4294967296 → match V.ty a with
    | some (p, r) => r ≤ 1 ∧ Does Tryz.prog env 31 [.agg X.M.cells, sI .u32 a] [] (.tup [.agg [sI .i64 p, sI .i64 r], sB true]) []
    | none => Does Tryz.prog env 31 [.agg X.M.cells, sI .u32 a] [] (.tup [.agg [sI .i64 0, sI .i64 0], sB false]) []
  tyN : X.M.tyN ≤ 1000000000
  ind : ∀ a : Nat, if 0 < X.M.taN ∧ a < X.M.tyN then ∃ p r : Nat, V.ind a = some (p, r) ∧ r ≤ 1 ∧ X.M.tyC.getD (a * 2) .bad = .sc (.int .i64 p) ∧ X.M.tyC.getD (a * 2 + 1) .bad = .sc (.int .i64 r) else V.ind a = none
  glN : X.M.glN = V.glob.length
  glM : V.glob.length ≤ 1000000000
  gl : ∀ (a : Nat) (b : Bool), V.glob[a]? = some b → X.M.glC.getD (a * 2 + 0) .bad = .sc (.bool b)
  me : V.mem = decide (0 < X.M.meN)

def _root_.Go.Am.VR.and (v : VR) (F : Nat → Bool → Nat → VR) : VR := match v with
  | .bad e q => .bad e q
  | .ok n d c => F n d c

theorem popV_and {q k n c : Nat} {d : Bool} {F : Nat → Bool → Nat → VR} : (popV q k n d fun m => .ok m d c).and F = popV q k n d fun m => F m d c := by
  unfold popV; split <;> rfl

section
variable {X : Lx} {V : VEnv} {R : Rw} {o : List Fr} {t : Fr} {n c : Nat}

theorem then_run {R1 : Rw} {v : VR} {F : Nat → Bool → Nat → VR} {f : FuncId} {args : List AV} (h : After o t R1 v) (hE : ∀ R : Rw, R.e ≠ 0 → Run X f args R R)
    (hG : ∀ n d c, v = .ok n d c → Good R1 o ⟨t.op, t.base, t.res, d⟩ n c → ∃ R2, Run X f args R1 R2 ∧ After o t R2 (F n d c)) : ∃ R2, Run X f args R1 R2 ∧ After o t R2 (v.and F) := by
  cases v with
  | bad e q => exact ⟨R1, hE R1 (by rw [h.1]; exact h.2.1), h⟩
  | ok n d c => exact hG _ _ _ rfl h

theorem bad_cal {P Q q : Int} (he : R.e ≠ 0) : Run X 114 [.agg [sI .i64 P, sI .i64 Q], sI .i64 q] R R := cal_of (popE he) (pusE he)
theorem bad_shp {op q : Int} (he : R.e ≠ 0) : Run X 141 [sI .i64 op, sI .i64 q] R R := shp_of (shp_does op) (popE he) (pusE he)

theorem both_run (g : Good R o t n c) (hle : R.h + 1 ≤ c) (hc : c ≤ 1000000000) (p r q : Nat) (hr : r ≤ 1) :
    ∃ R1 R2, Run X 110 [sI .i64 p, sI .i64 q] R R1 ∧ Run X 111 [sI .i64 r, sI .i64 q] R1 R2 ∧ After o t R2 (popV q p n t.dead fun n1 => .ok (n1 + r) t.dead c) := by
  obtain ⟨R1, r1, a1, h1, x1⟩ := pop_run (X := X) g p q
  have hnx := g.nx
  obtain ⟨R2, r2, a2⟩ := then_run (X := X) (F := fun m d c => .ok (m + r) d c) (f := 111) (args := [sI .i64 r, sI .i64 q]) a1 (fun R he => pusE he) (fun n' d c' hv g' => by
    have := g'.nx
    obtain ⟨R2, r2, a2⟩ := push_run (X := X) g' r q (by omega) (by omega)
    exact ⟨R2, r2, a2⟩)
  rw [popV_and] at a2
  exact ⟨R1, R2, r1, r2, a2⟩

theorem cal_run (g : Good R o t n c) (hle : R.h + 1 ≤ c) (hc : c ≤ 1000000000) (p r q : Nat) (hr : r ≤ 1) :
    ∃ R', Run X 114 [.agg [sI .i64 p, sI .i64 r], sI .i64 q] R R' ∧ After o t R' (popV q p n t.dead fun n1 => .ok (n1 + r) t.dead c) := by
  obtain ⟨R1, R2, r1, r2, a2⟩ := both_run (X := X) g hle hc p r q hr
  exact ⟨R2, cal_of r1 r2, a2⟩

theorem shp_run (g : Good R o t n c) (hle : R.h + 1 ≤ c) (hc : c ≤ 1000000000) (op : Int) (q : Nat) :
    ∃ R', Run X 141 [sI .i64 op, sI .i64 q] R R' ∧ After o t R' (popV q (takesF op) n t.dead fun n1 => .ok (n1 + tellsF op) t.dead c) := by
  obtain ⟨R1, R2, r1, r2, a2⟩ := both_run (X := X) g hle hc (takesF op) (tellsF op) q (tellsF_le op)
  exact ⟨R2, shp_of (shp_does op) r1 r2, a2⟩

theorem popdead_run (g : Good R o t n c) (p q : Nat) :
    ∃ R1 R2, Run X 110 [sI .i64 p, sI .i64 q] R R1 ∧ Run X 107 [sI .i64 q] R1 R2 ∧ After o t R2 (popV q p n t.dead fun _ => .ok 0 true c) := by
  obtain ⟨R1, r1, a1, h1, x1⟩ := pop_run (X := X) g p q
  obtain ⟨R2, r2, a2⟩ := then_run (X := X) (F := fun _ _ c => .ok 0 true c) (f := 107) (args := [sI .i64 q]) a1 (fun R he => deaE he) (fun n' d c' hv g' => by
    obtain ⟨R2, r2, a2, _⟩ := dead_run (X := X) g' q
    exact ⟨R2, r2, a2⟩)
  rw [popV_and] at a2
  exact ⟨R1, R2, r1, r2, a2⟩

theorem labs_le (g : Stand R o t n) {a k : Nat} (h : (labs (o ++ [t]))[a]? = some k) : k ≤ 1 := by
  obtain ⟨f, hf, hk, _⟩ := fr_at h
  obtain ⟨_, _, m3, m4⟩ := okStand_mem g.ok f (List.mem_of_getElem? hf)
  rw [hk]; split <;> omega

def badR (R : Rw) (e q : Int) : Rw := ⟨R.h, R.k, R.cs, e, q, R.nx⟩

theorem ask_true {R : Rw} {ec q : Int} : askS R true ec q = R := by unfold askS; rw [if_pos (.inl rfl)]
theorem ask_false {R : Rw} {ec q : Int} (he : R.e = 0) (hec : ec ≠ 0) : askS R false ec q = badR R ec q := by unfold askS badR; rw [if_neg (by simp [he, hec])]
theorem ask_bad {R : Rw} {b : Bool} {ec q : Int} (he : R.e ≠ 0) : askS R b ec q = R := by unfold askS; rw [if_pos (.inr (.inl he))]
theorem ask_dec {R : Rw} {p : Prop} [Decidable p] {ec q : Int} (he : R.e = 0) (hec : ec ≠ 0) : askS R (decide p) ec q = if p then R else badR R ec q := by
  by_cases h : p
  · rw [decide_eq_true h, ask_true, if_pos h]
  · rw [decide_eq_false h, ask_false he hec, if_neg h]

theorem lab_cases (g : Stand R o t n) (he : R.e = 0) (a : Nat) (ha : a < 4294967296) (q : Nat) :
    (∃ k, (labs (o ++ [t]))[a]? = some k ∧ k ≤ 1 ∧ Ask X 109 [sI .u32 a, sI .i64 q] (sI .i64 (k : Nat)) R R) ∨ ((labs (o ++ [t]))[a]? = none ∧ Ask X 109 [sI .u32 a, sI .i64 q] (sI .i64 (0 : Nat)) R (badR R 6 q)) := by
  have h := label_run (X := X) g a ha q
  have hll : (labs (o ++ [t])).length = (o ++ [t]).length := by simp [labs]
  by_cases hlt : a < (o ++ [t]).length
  · have hs : (labs (o ++ [t]))[a]? = some ((labs (o ++ [t])).getD a 0) := by
      rw [List.getD_eq_getElem?_getD, List.getElem?_eq_getElem (by omega)]; rfl
    rw [decide_eq_true hlt, ask_true] at h
    exact .inl ⟨_, hs, labs_le g hs, h⟩
  · have hs : (labs (o ++ [t]))[a]? = none := List.getElem?_eq_none (by omega)
    rw [decide_eq_false hlt, ask_false he (by decide), List.getD_eq_getElem?_getD, hs] at h
    exact .inr ⟨hs, h⟩

variable {r b nn : Int} {tg : List Int} {ll le : List Ins}

theorem br_run (g : Good R o t n c) (a : Nat) (ha : a < 4294967296) : ∃ R', Run X 83 [aggI 12 r a b nn tg ll le, sI .i64 c] R R' ∧ After o t R' (flatV V (labs (o ++ [t])) 12 a tg n t.dead c) := by
  have e1 : flatV V (labs (o ++ [t])) 12 a tg n t.dead c = (match (labs (o ++ [t]))[a]? with
    | none => .bad 6 c
    | some k => popV c k n t.dead fun _ => .ok 0 true c) := rfl
  rcases lab_cases (X := X) g.toStand g.e a ha c with ⟨k, hk, _, hA⟩ | ⟨hk, hA⟩
  · obtain ⟨R1, R2, r1, r2, a2⟩ := popdead_run (X := X) g k c
    refine ⟨R2, ins_br hA r1 r2, ?_⟩
    rw [e1, hk]; exact a2
  · have hb : (badR R 6 c).e ≠ 0 := (by decide : (6 : Int) ≠ 0)
    refine ⟨_, ins_br hA (popE hb) (deaE hb), ?_⟩
    rw [e1, hk]
    exact ⟨rfl, by decide, rfl⟩

theorem brif_run (g : Good R o t n c) (hle : R.h + 1 ≤ c) (hc : c ≤ 1000000000) (a : Nat) (ha : a < 4294967296) : ∃ R', Run X 83 [aggI 13 r a b nn tg ll le, sI .i64 c] R R' ∧ After o t R' (flatV V (labs (o ++ [t])) 13 a tg n t.dead c) := by
  have e1 : flatV V (labs (o ++ [t])) 13 a tg n t.dead c = (match (labs (o ++ [t]))[a]? with
    | none => .bad 6 c
    | some k => popV c 1 n t.dead fun n1 => popV c k n1 t.dead fun n2 => .ok (n2 + k) t.dead c) := rfl
  rcases lab_cases (X := X) g.toStand g.e a ha c with ⟨k, hk, hk1, hA⟩ | ⟨hk, hA⟩
  · obtain ⟨R1, r1, a1, h1, x1⟩ := pop_run (X := X) g 1 c
    have hnx := g.nx
    have step : ∀ v, After o t R1 v → (∀ n' d c', v = .ok n' d c' → d = t.dead ∧ c' = c) → ∃ R2 R3, Run X 110 [sI .i64 k, sI .i64 c] R1 R2 ∧ Run X 111 [sI .i64 k, sI .i64 c] R2 R3 ∧ After o t R3 (v.and fun m d c => popV c k m d fun n2 => .ok (n2 + k) d c) := by
      intro v hv hd
      cases v with
      | bad e q =>
        have hb : R1.e ≠ 0 := by rw [hv.1]; exact hv.2.1
        exact ⟨R1, R1, popE hb, pusE hb, hv⟩
      | ok m d c' =>
        obtain ⟨rfl, rfl⟩ := hd _ _ _ rfl
        obtain ⟨R2, R3, r2, r3, a3⟩ := both_run (X := X) (t := ⟨t.op, t.base, t.res, t.dead⟩) hv (by omega) hc k k c' hk1
        exact ⟨R2, R3, r2, r3, a3⟩
    obtain ⟨R2, R3, r2, r3, a3⟩ := step _ a1 (fun n' d c' hv => by
      unfold popV at hv; split at hv
      · cases hv
      · cases hv; exact ⟨rfl, rfl⟩)
    refine ⟨R3, ins_brif hA r1 r2 r3, ?_⟩
    rw [popV_and] at a3
    rw [e1, hk]; exact a3
  · have hb : (badR R 6 c).e ≠ 0 := (by decide : (6 : Int) ≠ 0)
    refine ⟨_, ins_brif hA (popE hb) (popE hb) (pusE hb), ?_⟩
    rw [e1, hk]
    exact ⟨rfl, by decide, rfl⟩

theorem ret_run (hv : VOk X V) (g : Good R o t n c) (a : Nat) : ∃ R', Run X 83 [aggI 15 r a b nn tg ll le, sI .i64 c] R R' ∧ After o t R' (flatV V (labs (o ++ [t])) 15 a tg n t.dead c) := by
  obtain ⟨R1, R2, r1, r2, a2⟩ := popdead_run (X := X) g V.ret c
  rw [← hv.ret] at r1
  exact ⟨R2, ins_ret r1 r2, a2⟩

theorem call_run (hv : VOk X V) (g : Good R o t n c) (hle : R.h + 1 ≤ c) (hc : c ≤ 1000000000) (a : Nat) (ha : a < 4294967296) : ∃ R', Run X 83 [aggI 16 r a b nn tg ll le, sI .i64 c] R R' ∧ After o t R' (flatV V (labs (o ++ [t])) 16 a tg n t.dead c) := by
  have e1 : flatV V (labs (o ++ [t])) 16 a tg n t.dead c = (match V.ty a with
    | none => .bad 6 c
    | some (p, r) => popV c p n t.dead fun n1 => .ok (n1 + r) t.dead c) := rfl
  have h := hv.ty a ha
  rw [e1]
  cases hty : V.ty a with
  | none =>
    rw [hty] at h
    have hb : (badR R 6 c).e ≠ 0 := (by decide : (6 : Int) ≠ 0)
    have hA := ask_run (X := X) (R := R) false 6 c
    rw [ask_false g.e (by decide)] at hA
    exact ⟨_, ins_call h hA (bad_cal hb), rfl, by decide, rfl⟩
  | some pr =>
    obtain ⟨p, r'⟩ := pr
    rw [hty] at h
    have hA := ask_run (X := X) (R := R) true 6 c
    rw [ask_true] at hA
    obtain ⟨R2, r2, a2⟩ := cal_run (X := X) g hle hc p r' c h.1
    exact ⟨R2, ins_call h.2 hA r2, a2⟩

theorem ind_run (hv : VOk X V) (g : Good R o t n c) (hle : R.h + 1 ≤ c) (hc : c ≤ 1000000000) (a : Nat) (ha : a < 4294967296) : ∃ R', Run X 83 [aggI 17 r a b nn tg ll le, sI .i64 c] R R' ∧ After o t R' (flatV V (labs (o ++ [t])) 17 a tg n t.dead c) := by
  have e1 : flatV V (labs (o ++ [t])) 17 a tg n t.dead c = (match V.ind a with
    | none => .bad 6 c
    | some (p, r) => popV c 1 n t.dead fun n1 => popV c p n1 t.dead fun n2 => .ok (n2 + r) t.dead c) := rfl
  have h := hv.ind a
  have htyN := hv.tyN
  rw [e1]
  have hb : (badR R 6 c).e ≠ 0 := (by decide : (6 : Int) ≠ 0)
  by_cases ht : 0 < X.M.taN
  · by_cases hlt : a < X.M.tyN
    · rw [if_pos ⟨ht, hlt⟩] at h
      obtain ⟨p, r', h1, h2, h3, h4⟩ := h
      rw [h1]
      have hA := ask_run (X := X) (R := R) true 6 c
      rw [ask_true] at hA
      obtain ⟨R1, r1, a1, hh1, x1⟩ := pop_run (X := X) g 1 c
      have hnx := g.nx
      obtain ⟨R2, r2, a2⟩ := then_run (X := X) (F := fun m d c => popV c p m d fun n2 => .ok (n2 + r') d c) (f := 114) (args := [.agg [sI .i64 p, sI .i64 r'], sI .i64 c]) a1 (fun R he => bad_cal he) (fun n' d c' hv' g' => by
        have := g'.nx
        have hcc : c' = c := by omega
        subst hcc
        obtain ⟨R2, r2, a2⟩ := cal_run (X := X) g' (by omega) hc p r' c' h2
        exact ⟨R2, r2, a2⟩)
      rw [popV_and] at a2
      exact ⟨R2, ins_indT ht htyN ⟨by omega, by omega⟩ (fun _ => ⟨h3, h4⟩) (by rw [decide_eq_true (by omega)]; exact hA) r1 (fun _ => r2) (fun hn => absurd (by omega) hn), a2⟩
    · rw [if_neg (fun q => hlt q.2)] at h
      rw [h]
      have hA := ask_run (X := X) (R := R) false 6 c
      rw [ask_false g.e (by decide)] at hA
      exact ⟨_, ins_indT (P := 0) (Q := 0) ht htyN ⟨by omega, by omega⟩ (fun q => absurd q (by omega)) (by rw [decide_eq_false (by omega)]; exact hA) (popE hb) (fun q => absurd q (by omega)) (fun _ => rfl), rfl, by decide, rfl⟩
  · rw [if_neg (fun q => ht q.1)] at h
    rw [h]
    have hA := ask_run (X := X) (R := R) false 6 c
    rw [ask_false g.e (by decide)] at hA
    exact ⟨_, ins_indF (by omega) hA (popE hb), rfl, by decide, rfl⟩

end
end Go.Proofs.YtgbphddecpjlhaaGreatDoor.N
end

section
set_option linter.unusedSimpArgs false
namespace Go.Proofs.YtgbphddecpjlhaaGreatDoor.N
open Go Go.Am

section
variable {X : Lx} {V : VEnv} {R R1 R2 R3 : Rw} {o : List Fr} {t : Fr} {n c : Nat}
variable {op r a b nn q : Int} {tg : List Int} {ll le : List Ins}

theorem pla_own (ho : op = 32 ∨ op = 33 ∨ op = 34) (ha : 0 ≤ a ∧ a < 4294967296) (h1 : Ask X 113 [sB (decide (a < X.own)), sI .i64 6, sI .i64 q] (.tup []) R R1) (h2 : Run X 141 [sI .i64 op, sI .i64 q] R1 R2) :
    Run X 115 [aggI op r a b nn tg ll le, sI .i64 q] R R2 := by
  refine Does.fromW (rows := [(115, 53, sB true)]) ?_
  refine does_of_tree names (pla_tree X R R1 R2 R R R R R op r a b nn tg ll le q 0 true true) ?_
  have w1 : IntKind.u64.wrap a = a := u64In (by omega) (by omega)
  rcases ho with rfl | rfl | rfl <;>
  · simp only [plaTree, Tree.ok, keep_map, w1, Int.reduceBEq, Bool.false_eq_true, Bool.true_eq_false, false_implies, true_implies, true_and, and_true]
    exact ⟨Does.toW h1, Does.toW h2⟩

theorem pla_setT {mu : Bool} (ha : 0 ≤ a ∧ a < 4294967296) (hn : X.M.glN ≤ 1000000000) (hlt : a < X.M.glN) (hc : X.M.glC.getD (a.toNat * 2 + 0) .bad = .sc (.bool mu))
    (h1 : Ask X 113 [sB mu, sI .i64 212, sI .i64 q] (.tup []) R R1) (h2 : Ask X 113 [sB true, sI .i64 6, sI .i64 q] (.tup []) R1 R2) (h3 : Run X 141 [sI .i64 36, sI .i64 q] R2 R3) :
    Run X 115 [aggI 36 r a b nn tg ll le, sI .i64 q] R R3 := by
  refine Does.fromW (rows := [(115, 53, sB mu)]) ?_
  refine does_of_tree names (pla_tree X R R1 R2 R3 R R R R 36 r a b nn tg ll le q 0 true mu) ?_
  have w1 : IntKind.u64.wrap a = a := u64In (by omega) (by omega)
  have w2 : IntKind.u64.wrap (X.M.glN : Int) = X.M.glN := u64In (by omega) (by omega)
  have g1 : decide (a < (X.M.glN : Int)) = true := decide_eq_true hlt
  have g2 : eqBool mu mu = true := (eqBool_iff _ _).2 rfl
  simp only [plaTree, Tree.ok, keep_map, w1, w2, g1, g2, hc, isBool, pvBool, eqAV_bool, inB, Int.reduceBEq, Bool.false_eq_true, Bool.true_eq_false, false_implies, true_implies, true_and, and_true, Bool.and_true, Bool.and_eq_true, decide_eq_true_eq]
  exact ⟨by omega, Does.toW h1, Does.toW h2, Does.toW h3⟩

theorem pla_setF (ha : 0 ≤ a ∧ a < 4294967296) (hn : X.M.glN ≤ 1000000000) (hlt : ¬ a < X.M.glN)
    (h1 : Ask X 113 [sB false, sI .i64 6, sI .i64 q] (.tup []) R R1) (h3 : Run X 141 [sI .i64 36, sI .i64 q] R1 R2) :
    Run X 115 [aggI 36 r a b nn tg ll le, sI .i64 q] R R2 := by
  refine Does.fromW (rows := [(115, 53, sB true)]) ?_
  refine does_of_tree names (pla_tree X R R1 R2 R R R R R 36 r a b nn tg ll le q 0 true true) ?_
  have w1 : IntKind.u64.wrap a = a := u64In (by omega) (by omega)
  have w2 : IntKind.u64.wrap (X.M.glN : Int) = X.M.glN := u64In (by omega) (by omega)
  have g1 : decide (a < (X.M.glN : Int)) = false := decide_eq_false hlt
  simp only [plaTree, Tree.ok, keep_map, w1, w2, g1, Int.reduceBEq, Bool.false_eq_true, Bool.true_eq_false, false_implies, true_implies, true_and, and_true]
  exact ⟨Does.toW h1, Does.toW h3⟩

theorem pla_get (ha : 0 ≤ a ∧ a < 4294967296) (hn : X.M.glN ≤ 1000000000)
    (h1 : Ask X 113 [sB (decide (a < X.M.glN)), sI .i64 6, sI .i64 q] (.tup []) R R1) (h3 : Run X 141 [sI .i64 35, sI .i64 q] R1 R2) :
    Run X 115 [aggI 35 r a b nn tg ll le, sI .i64 q] R R2 := by
  refine Does.fromW (rows := [(115, 53, sB true)]) ?_
  refine does_of_tree names (pla_tree X R R1 R2 R R R R R 35 r a b nn tg ll le q 0 true true) ?_
  have w1 : IntKind.u64.wrap a = a := u64In (by omega) (by omega)
  have w2 : IntKind.u64.wrap (X.M.glN : Int) = X.M.glN := u64In (by omega) (by omega)
  simp only [plaTree, Tree.ok, keep_map, w1, w2, Int.reduceBEq, Bool.false_eq_true, Bool.true_eq_false, false_implies, true_implies, true_and, and_true]
  exact ⟨Does.toW h1, Does.toW h3⟩

theorem pla_mem (ho : op = 63 ∨ op = 64) (h1 : Ask X 113 [sB (decide ((X.M.meN : Int) > 0)), sI .i64 6, sI .i64 q] (.tup []) R R1) (h2 : Run X 141 [sI .i64 op, sI .i64 q] R1 R2) :
    Run X 115 [aggI op r a b nn tg ll le, sI .i64 q] R R2 := by
  refine Does.fromW (rows := [(115, 53, sB true)]) ?_
  refine does_of_tree names (pla_tree X R R1 R2 R R R R R op r a b nn tg ll le q 0 true true) ?_
  rcases ho with rfl | rfl <;>
  · simp only [plaTree, Tree.ok, keep_map, Int.reduceBEq, Bool.false_eq_true, Bool.true_eq_false, false_implies, true_implies, true_and, and_true]
    exact ⟨Does.toW h1, Does.toW h2⟩

theorem pla_st (ho : isStV op = true) (h1 : Ask X 113 [sB (decide ((X.M.meN : Int) > 0)), sI .i64 6, sI .i64 q] (.tup []) R R1) (h2 : Ask X 113 [sB (decide (a ≤ alignV op)), sI .i64 211, sI .i64 q] (.tup []) R1 R2) (h3 : Run X 141 [sI .i64 op, sI .i64 q] R2 R3) :
    Run X 115 [aggI op r a b nn tg ll le, sI .i64 q] R R3 := by
  have hal : Does Tryz.prog env 140 [sI .i64 op] [] (.tup [sI .u32 (alignV op), sB true]) [] := by
    have := align_does op
    rw [show isSt op = true from ho] at this
    exact this
  have ho' := of_decide_eq_true ho
  refine Does.fromW (rows := [(115, 53, sB true)]) ?_
  refine does_of_tree names (pla_tree X R R1 R2 R3 R R R R op r a b nn tg ll le q (alignV op) true true) ?_
  have e0 : (op == 32) = false := by simp; omega
  have e1 : (op == 33) = false := by simp; omega
  have e2 : (op == 34) = false := by simp; omega
  have e3 : (op == 35) = false := by simp; omega
  have e4 : (op == 36) = false := by simp; omega
  have e5 : (op == 63) = false := by simp; omega
  have e6 : (op == 64) = false := by simp; omega
  simp only [plaTree, Tree.ok, keep_map, e0, e1, e2, e3, e4, e5, e6, Bool.false_eq_true, Bool.true_eq_false, false_implies, true_implies, true_and, and_true]
  exact ⟨Does.toW hal, Does.toW h1, Does.toW h2, Does.toW h3⟩

theorem pla_rest (ho : isStV op = false) (h32 : op ≠ 32 ∧ op ≠ 33 ∧ op ≠ 34 ∧ op ≠ 35 ∧ op ≠ 36 ∧ op ≠ 63 ∧ op ≠ 64) (h3 : Run X 141 [sI .i64 op, sI .i64 q] R R1) :
    Run X 115 [aggI op r a b nn tg ll le, sI .i64 q] R R1 := by
  have hal : Does Tryz.prog env 140 [sI .i64 op] [] (.tup [sI .u32 (alignV op), sB false]) [] := by
    have := align_does op
    rw [show isSt op = false from ho] at this
    exact this
  obtain ⟨k0, k1, k2, k3, k4, k5, k6⟩ := h32
  refine Does.fromW (rows := [(115, 53, sB true)]) ?_
  refine does_of_tree names (pla_tree X R R1 R R R R R R op r a b nn tg ll le q (alignV op) false true) ?_
  have e0 : (op == 32) = false := by simpa using k0
  have e1 : (op == 33) = false := by simpa using k1
  have e2 : (op == 34) = false := by simpa using k2
  have e3 : (op == 35) = false := by simpa using k3
  have e4 : (op == 36) = false := by simpa using k4
  have e5 : (op == 63) = false := by simpa using k5
  have e6 : (op == 64) = false := by simpa using k6
  simp only [plaTree, Tree.ok, keep_map, e0, e1, e2, e3, e4, e5, e6, Bool.false_eq_true, Bool.true_eq_false, false_implies, true_implies, true_and, and_true]
  exact ⟨Does.toW hal, Does.toW h3⟩

def nameR (R : Rw) (e q : Int) : Rw := if e = 0 then R else badR R e q

theorem shp_fin (g : Good R o t n c) (hle : R.h + 1 ≤ c) (hc : c ≤ 1000000000) (op e : Int) :
    ∃ R', Run X 141 [sI .i64 op, sI .i64 c] (nameR R e c) R' ∧ After o t R' (if e ≠ 0 then .bad e c else popV c (takesF op) n t.dead fun n1 => .ok (n1 + tellsF op) t.dead c) := by
  by_cases he : e = 0
  · rw [nameR, if_pos he, if_neg (by simpa using he)]
    exact shp_run g hle hc op c
  · rw [nameR, if_neg he, if_pos he]
    exact ⟨_, bad_shp he, rfl, he, rfl⟩

theorem plain_run (hv : VOk X V) (g : Good R o t n c) (hle : R.h + 1 ≤ c) (hc : c ≤ 1000000000) {op : Int} {a : Nat} (ha : a < 4294967296) :
    ∃ R', Run X 115 [aggI op r a b nn tg ll le, sI .i64 c] R R' ∧ After o t R' (if nameV V op a ≠ 0 then .bad (nameV V op a) c else popV c (takesF op) n t.dead fun n1 => .ok (n1 + tellsF op) t.dead c) := by
  have haI : (0 : Int) ≤ (a : Int) ∧ (a : Int) < 4294967296 := ⟨by omega, by omega⟩
  have hgN : X.M.glN ≤ 1000000000 := by rw [hv.glN]; exact hv.glM
  by_cases h1 : op = 32 ∨ op = 33 ∨ op = 34
  · have e1 : nameV V op a = if (a : Int) < V.own then 0 else 6 := by unfold nameV; rw [if_pos h1]
    have hA := ask_run (X := X) (R := R) (decide ((a : Int) < X.own)) 6 c
    rw [ask_dec g.e (by decide)] at hA
    have hR : (if (a : Int) < X.own then R else badR R 6 c) = nameR R (nameV V op a) c := by
      rw [e1, hv.own]; by_cases hq : (a : Int) < V.own
      · rw [if_pos hq, if_pos hq]; rfl
      · rw [if_neg hq, if_neg hq]; rfl
    rw [hR] at hA
    obtain ⟨R', r1, a1⟩ := shp_fin (X := X) g hle hc op (nameV V op a)
    exact ⟨R', pla_own h1 haI hA r1, a1⟩
  by_cases h2 : op = 36
  · subst h2
    by_cases hlt : a < X.M.glN
    · have hg : a < V.glob.length := by rw [← hv.glN]; exact hlt
      have hs : V.glob[a]? = some V.glob[a] := List.getElem?_eq_getElem hg
      have hcell := hv.gl a _ hs
      have e1 : nameV V 36 a = if V.glob[a] = true then 0 else 212 := by
        unfold nameV
        rw [if_neg (by decide), if_pos rfl, Int.toNat_natCast, hs]
        cases V.glob[a] <;> rfl
      have hA := ask_run (X := X) (R := R) V.glob[a] 212 c
      have hR : askS R V.glob[a] 212 c = nameR R (nameV V 36 a) c := by
        rw [e1]
        cases V.glob[a]
        · rw [ask_false g.e (by decide)]; rfl
        · rw [ask_true]; rfl
      rw [hR] at hA
      have hB := ask_run (X := X) (R := nameR R (nameV V 36 a) c) true 6 c
      rw [ask_true] at hB
      obtain ⟨R', r1, a1⟩ := shp_fin (X := X) g hle hc 36 (nameV V 36 a)
      exact ⟨R', pla_setT haI hgN (by omega) (by rw [Int.toNat_natCast]; exact hcell) hA hB r1, a1⟩
    · have hs : V.glob[a]? = none := List.getElem?_eq_none (by rw [← hv.glN]; omega)
      have e1 : nameV V 36 a = 6 := by
        unfold nameV
        rw [if_neg (by decide), if_pos rfl, Int.toNat_natCast, hs]
      have hA := ask_run (X := X) (R := R) false 6 c
      rw [ask_false g.e (by decide), show badR R 6 c = nameR R (nameV V 36 a) c by rw [e1]; rfl] at hA
      obtain ⟨R', r1, a1⟩ := shp_fin (X := X) g hle hc 36 (nameV V 36 a)
      exact ⟨R', pla_setF haI hgN (by omega) hA r1, a1⟩
  by_cases h3 : op = 35
  · subst h3
    have e1 : nameV V 35 a = if (a : Int) < V.glob.length then 0 else 6 := by unfold nameV; rw [if_neg (by decide), if_neg (by decide), if_pos rfl]
    have hA := ask_run (X := X) (R := R) (decide ((a : Int) < X.M.glN)) 6 c
    rw [ask_dec g.e (by decide)] at hA
    have hR : (if (a : Int) < X.M.glN then R else badR R 6 c) = nameR R (nameV V 35 a) c := by
      rw [e1, hv.glN]; by_cases hq : (a : Int) < V.glob.length
      · rw [if_pos hq, if_pos hq]; rfl
      · rw [if_neg hq, if_neg hq]; rfl
    rw [hR] at hA
    obtain ⟨R', r1, a1⟩ := shp_fin (X := X) g hle hc 35 (nameV V 35 a)
    exact ⟨R', pla_get haI hgN hA r1, a1⟩
  have hmA := ask_run (X := X) (R := R) (decide ((X.M.meN : Int) > 0)) 6 c
  rw [ask_dec g.e (by decide)] at hmA
  have hmR : (if (X.M.meN : Int) > 0 then R else badR R 6 c) = if V.mem = true then R else badR R 6 c := by
    rw [hv.me]
    by_cases hq : 0 < X.M.meN
    · rw [if_pos (by omega), if_pos (by simpa using hq)]
    · rw [if_neg (by omega), if_neg (by simpa using hq)]
  rw [hmR] at hmA
  by_cases h4 : op = 63 ∨ op = 64
  · have e1 : nameV V op a = if V.mem = true then 0 else 6 := by unfold nameV; rw [if_neg (by omega), if_neg h2, if_neg h3, if_pos h4]
    have hR : (if V.mem = true then R else badR R 6 c) = nameR R (nameV V op a) c := by
      rw [e1]; by_cases hq : V.mem = true
      · rw [if_pos hq, if_pos hq]; rfl
      · rw [if_neg hq, if_neg hq]; rfl
    rw [hR] at hmA
    obtain ⟨R', r1, a1⟩ := shp_fin (X := X) g hle hc op (nameV V op a)
    exact ⟨R', pla_mem h4 hmA r1, a1⟩
  by_cases h5 : isStV op = true
  · have e1 : nameV V op a = if V.mem = true then (if alignV op < a then 211 else 0) else 6 := by unfold nameV; rw [if_neg (by omega), if_neg h2, if_neg h3, if_neg h4, if_pos h5]
    have hB := ask_run (X := X) (R := if V.mem = true then R else badR R 6 c) (decide ((a : Int) ≤ alignV op)) 211 c
    have hR : askS (if V.mem = true then R else badR R 6 c) (decide ((a : Int) ≤ alignV op)) 211 c = nameR R (nameV V op a) c := by
      rw [e1]
      by_cases hq : V.mem = true
      · rw [if_pos hq, if_pos hq, ask_dec g.e (by decide)]
        by_cases hz : (a : Int) ≤ alignV op
        · rw [if_pos hz, if_neg (by omega)]; rfl
        · rw [if_neg hz, if_pos (by omega)]; rfl
      · rw [if_neg hq, if_neg hq, ask_bad (by decide : (6 : Int) ≠ 0)]; rfl
    rw [hR] at hB
    obtain ⟨R', r1, a1⟩ := shp_fin (X := X) g hle hc op (nameV V op a)
    exact ⟨R', pla_st h5 hmA hB r1, a1⟩
  · have e1 : nameV V op a = 0 := by unfold nameV; rw [if_neg (by omega), if_neg h2, if_neg h3, if_neg h4, if_neg h5]
    obtain ⟨R', r1, a1⟩ := shp_fin (X := X) g hle hc op (nameV V op a)
    rw [show nameR R (nameV V op a) c = R by rw [e1]; rfl] at r1
    exact ⟨R', pla_rest (by simpa using h5) (by omega) r1, a1⟩

end
end Go.Proofs.YtgbphddecpjlhaaGreatDoor.N
end

section
set_option linter.unusedSimpArgs false
namespace Go.Proofs.YtgbphddecpjlhaaGreatDoor.N
open Go Go.Am

section
variable {X : Lx} {V : VEnv} {R : Rw} {o : List Fr} {t : Fr} {n c : Nat}
variable {r a b nn : Int} {tg : List Int} {ll le : List Ins}

theorem Stand.bad (g : Stand R o t n) (e q : Int) : Stand (badR R e q) o t n := ⟨g.h, g.k, g.cs, g.ok⟩

def okR (R : Rw) (fine : Bool) (e q : Int) : Rw := if fine = true then R else badR R e q

theorem lab_step (g : Stand R o t n) (he : R.e = 0) (fine : Bool) (x : Int) (hx : 0 ≤ x ∧ x < 4294967296) (q : Nat) :
    Ask X 109 [sI .u32 x, sI .i64 q] (sI .i64 ((labs (o ++ [t])).getD x.toNat 0 : Nat)) (okR R fine 6 q) (okR R (fine && decide (x < (o ++ [t]).length)) 6 q) := by
  obtain ⟨m, rfl⟩ := Int.eq_ofNat_of_zero_le hx.1
  have hd : decide ((m : Int) < ((o ++ [t]).length : Int)) = decide (m < (o ++ [t]).length) := by congr 1; exact propext (by omega)
  cases fine with
  | true =>
    have h := label_run (X := X) g m (by omega) q
    have e1 : askS R (decide (m < (o ++ [t]).length)) 6 q = okR R (true && decide ((m : Int) < ((o ++ [t]).length : Int))) 6 q := by
      rw [ask_dec he (by decide), Bool.true_and, hd, okR]
      by_cases hq : m < (o ++ [t]).length
      · rw [if_pos hq, if_pos (decide_eq_true hq)]
      · rw [if_neg hq, if_neg (by simpa using hq)]
    rw [e1] at h
    exact h
  | false =>
    have h := label_run (X := X) (g.bad 6 q) m (by omega) q
    rw [ask_bad (by decide : (6 : Int) ≠ 0)] at h
    exact h

def msOf (ls : List Nat) (l : List Int) : List PV := l.map fun x => .sc (.int .i64 (ls.getD x.toNat 0 : Nat))

theorem msOf_get (ls : List Nat) (l : List Int) {i : Nat} (h : i < l.length) : (msOf ls l).getD i .bad = .sc (.int .i64 (ls.getD (l.getD i 0).toNat 0 : Nat)) := by
  rw [msOf, List.getD_eq_getElem?_getD, List.getElem?_map, List.getElem?_eq_getElem h]
  simp [List.getD_eq_getElem?_getD, List.getElem?_eq_getElem h]

def eqR (R : Rw) (fine same : Bool) (q : Int) : Rw := okR (okR R same 214 q) fine 6 q

theorem eq_step (he : R.e = 0) (fine same y : Bool) (q : Int) : Ask X 113 [sB y, sI .i64 214, sI .i64 q] (.tup []) (eqR R fine same q) (eqR R fine (same && y) q) := by
  have h := ask_run (X := X) (R := eqR R fine same q) y 214 q
  have e1 : askS (eqR R fine same q) y 214 q = eqR R fine (same && y) q := by
    cases fine with
    | false =>
      have e (z : Bool) : eqR R false z q = badR (okR R z 214 q) 6 q := rfl
      rw [e, ask_bad (R := badR (okR R same 214 q) 6 q) (by decide : (6 : Int) ≠ 0), e]
      cases same <;> cases y <;> rfl
    | true =>
      have e0 : eqR R true false q = badR R 214 q := rfl
      have e1 : eqR R true true q = R := rfl
      cases same with
      | false => rw [e0, ask_bad (R := badR R 214 q) (by decide : (214 : Int) ≠ 0), Bool.false_and, e0]
      | true =>
        rw [e1, Bool.true_and]
        cases y with
        | true => rw [ask_true, e1]
        | false => rw [ask_false he (by decide), e0]
  rw [e1] at h
  exact h

theorem tab_end (g : Good R o t n c) (fine same : Bool) (k : Nat) :
    ∃ R1 R2 R3, Run X 110 [sI .i64 (1 : Nat), sI .i64 c] (eqR R fine same c) R1 ∧ Run X 110 [sI .i64 k, sI .i64 c] R1 R2 ∧ Run X 107 [sI .i64 c] R2 R3 ∧
      After o t R3 (if fine = false then .bad 6 c else if same = false then .bad 214 c else popV c 1 n t.dead fun n1 => popV c k n1 t.dead fun _ => .ok 0 true c) := by
  cases fine with
  | false =>
    have hb : (eqR R false same c).e ≠ 0 := (by decide : (6 : Int) ≠ 0)
    exact ⟨_, _, _, popE hb, popE hb, deaE hb, rfl, by decide, rfl⟩
  | true => cases same with
    | false =>
      have hb : (eqR R true false c).e ≠ 0 := (by decide : (214 : Int) ≠ 0)
      exact ⟨_, _, _, popE hb, popE hb, deaE hb, rfl, by decide, rfl⟩
    | true =>
      obtain ⟨R1, r1, a1, h1, x1⟩ := pop_run (X := X) g 1 c
      have hnx := g.nx
      have step : ∀ v, After o t R1 v → (∀ n' d c', v = .ok n' d c' → d = t.dead ∧ c' = c) → ∃ R2 R3, Run X 110 [sI .i64 k, sI .i64 c] R1 R2 ∧ Run X 107 [sI .i64 c] R2 R3 ∧ After o t R3 (v.and fun m d c => popV c k m d fun _ => .ok 0 true c) := by
        intro v hv hd
        cases v with
        | bad e q =>
          have hb : R1.e ≠ 0 := by rw [hv.1]; exact hv.2.1
          exact ⟨R1, R1, popE hb, deaE hb, hv⟩
        | ok m d c' =>
          obtain ⟨rfl, rfl⟩ := hd _ _ _ rfl
          obtain ⟨R2, R3, r2, r3, a3⟩ := popdead_run (X := X) (t := ⟨t.op, t.base, t.res, t.dead⟩) hv k c'
          exact ⟨R2, R3, r2, r3, a3⟩
      obtain ⟨R2, R3, r2, r3, a3⟩ := step _ a1 (fun n' d c' hv => by
        unfold popV at hv; split at hv
        · cases hv
        · cases hv; exact ⟨rfl, rfl⟩)
      rw [popV_and] at a3
      exact ⟨R1, R2, R3, r1, r2, r3, a3⟩

abbrev i14 (r a b nn : Int) (tg : List Int) (ll le : List Ins) : Blk := .pc [.sc (.int .i64 14), .sc (.int .i64 r), .sc (.int .u32 a), .sc (.int .u32 b), .sc (.int .i32 nn), .ps tg.length 1 (encT .u32 tg), .ps ll.length 8 (encL ll), .ps le.length 8 (encL le)]

theorem tab_loop2 (he : R.e = 0) (fine : Bool) (ls : List Nat) (v q : Nat) (hlen : tg.length ≤ 1000000000) {R1 R2 R3 : Rw}
    (r1 : Run X 110 [sI .i64 (1 : Nat), sI .i64 q] (eqR R fine (tg.all fun x => ls.getD x.toNat 0 == v) q) R1) (r2 : Run X 110 [sI .i64 v, sI .i64 q] R1 R2) (r3 : Run X 107 [sI .i64 q] R2 R3) :
    ∀ (m i : Nat), i + m = tg.length → Am.Good Tryz.prog env (bodyCfg Tryz.prog env 112 2 [.mp 0 0, sI .i64 q, sI .i64 v, .os (some 2) tg.length 1 (msOf ls tg), sI .i64 tg.length, sI .i64 i]
      (memIn X (eqR R fine ((tg.take i).all fun x => ls.getD x.toNat 0 == v) q) ++ [.tok]) 2 55) (.ret (.tup []) (memOut X R3)) := by
  intro m
  induction m with
  | zero =>
    intro i hi
    have hti : tg.take i = tg := List.take_of_length_le (by omega)
    rw [hti]
    refine good_of_tree names (tmL_tree X (eqR R fine (tg.all fun x => ls.getD x.toNat 0 == v) q) R1 R2 R3 R R R R q v 0 i tg.length (msOf ls tg)) ?_
    have g1 : decide ((i : Int) < (tg.length : Int)) = false := by simp; omega
    simp only [tmLTree, Tree.ok, keep_map, g1, Bool.false_eq_true, false_implies, true_implies, true_and, and_true]
    exact ⟨r1, r2, r3⟩
  | succ m ih =>
    intro i hi
    have hlt : i < tg.length := by omega
    have hih := ih (i + 1) (by omega)
    have htk : tg.take (i + 1) = tg.take i ++ [tg.getD i 0] := by
      rw [List.take_add_one, List.getElem?_eq_getElem hlt, List.getD_eq_getElem?_getD, List.getElem?_eq_getElem hlt]; rfl
    rw [htk, List.all_append, List.all_cons, List.all_nil, Bool.and_true] at hih
    have hA := eq_step (X := X) he fine ((tg.take i).all fun x => ls.getD x.toNat 0 == v) (ls.getD (tg.getD i 0).toNat 0 == v) q
    refine good_of_tree names (tmL_tree X _ (eqR R fine (((tg.take i).all fun x => ls.getD x.toNat 0 == v) && (ls.getD (tg.getD i 0).toNat 0 == v)) q) R R R R R R q v (ls.getD (tg.getD i 0).toNat 0 : Nat) i tg.length (msOf ls tg)) ?_
    have g1 : decide ((i : Int) < (tg.length : Int)) = true := by simp; omega
    have hm := msOf_get ls tg hlt
    have hy : (((ls.getD (tg.getD i 0).toNat 0 : Nat) : Int) == (v : Int)) = (ls.getD (tg.getD i 0).toNat 0 == v) := by
      rw [Bool.eq_iff_iff, beq_iff_eq, beq_iff_eq]; omega
    have w1 : IntKind.i64.wrap ((i : Int) + 1) = ((i + 1 : Nat) : Int) := by rw [i64In (by omega) (by omega)]; rfl
    simp only [tmLTree, Tree.ok, keep_map, g1, w1, Int.toNat_natCast, Nat.mul_one, hm, isInt, pvInt, ik, hy, inB, Bool.true_eq_false, false_implies, true_implies, true_and, and_true, Bool.and_true, Bool.and_eq_true, decide_eq_true_eq]
    exact ⟨by omega, hA, hih⟩

theorem tab_loop1 (g : Good R o t n c) (ha : 0 ≤ a ∧ a < 4294967296) (htg : ∀ x ∈ tg, 0 ≤ x ∧ x < 4294967296) (hlen : tg.length ≤ 1000000000) {R1 R2 R3 : Rw}
    (r1 : Run X 110 [sI .i64 (1 : Nat), sI .i64 c] (eqR R ((tg.all fun x => decide (x < (o ++ [t]).length)) && decide (a < (o ++ [t]).length)) (tg.all fun x => (labs (o ++ [t])).getD x.toNat 0 == (labs (o ++ [t])).getD a.toNat 0) c) R1)
    (r2 : Run X 110 [sI .i64 ((labs (o ++ [t])).getD a.toNat 0 : Nat), sI .i64 c] R1 R2) (r3 : Run X 107 [sI .i64 c] R2 R3) :
    ∀ (m i : Nat), i + m = tg.length → 1 ≤ i → Am.Good Tryz.prog env (bodyCfg Tryz.prog env 112 0 [.mp 0 0, sI .i64 c, .mp 2 0, .os (some 3) i 1 (msOf (labs (o ++ [t])) (tg.take i)), tgA tg, sI .i64 tg.length, sI .i64 i]
      (memIn X (okR R ((tg.take i).all fun x => decide (x < (o ++ [t]).length)) 6 c) ++ [i14 r a b nn tg ll le, .tok]) 2 55) (.ret (.tup []) (memOut X R3)) := by
  intro m
  induction m with
  | zero =>
    intro i hi h1
    have hti : tg.take i = tg := List.take_of_length_le (by omega)
    obtain rfl : i = tg.length := by omega
    rw [hti]
    have hA := lab_step (X := X) g.toStand g.e (tg.all fun x => decide (x < (o ++ [t]).length)) a ha c
    have hl2 := tab_loop2 (X := X) g.e ((tg.all fun x => decide (x < (o ++ [t]).length)) && decide (a < (o ++ [t]).length)) (labs (o ++ [t])) ((labs (o ++ [t])).getD a.toNat 0) c hlen r1 r2 r3 tg.length 0 (by omega)
    have hz : eqR R ((tg.all fun x => decide (x < (o ++ [t]).length)) && decide (a < (o ++ [t]).length)) ((tg.take 0).all fun x => (labs (o ++ [t])).getD x.toNat 0 == (labs (o ++ [t])).getD a.toNat 0) c =
        okR R ((tg.all fun x => decide (x < (o ++ [t]).length)) && decide (a < (o ++ [t]).length)) 6 c := rfl
    rw [hz] at hl2
    refine good_of_tree names (tbL_tree X _ (okR R ((tg.all fun x => decide (x < (o ++ [t]).length)) && decide (a < (o ++ [t]).length)) 6 c) R R R R R R r a b nn tg ll le c tg.length tg.length (msOf (labs (o ++ [t])) tg) 0 ((labs (o ++ [t])).getD a.toNat 0 : Nat)) ?_
    have g1 : decide ((tg.length : Int) < (tg.length : Int)) = false := by simp
    simp only [tbLTree, Tree.ok, keep_map, g1, Bool.false_eq_true, false_implies, true_implies, true_and, and_true]
    exact ⟨hA, hl2⟩
  | succ m ih =>
    intro i hi h1
    have hlt : i < tg.length := by omega
    have hih := ih (i + 1) (by omega) (by omega)
    have htk : tg.take (i + 1) = tg.take i ++ [tg.getD i 0] := by
      rw [List.take_add_one, List.getElem?_eq_getElem hlt, List.getD_eq_getElem?_getD, List.getElem?_eq_getElem hlt]; rfl
    have hmem : tg.getD i 0 ∈ tg := by rw [List.getD_eq_getElem?_getD, List.getElem?_eq_getElem hlt]; exact List.getElem_mem hlt
    rw [htk, List.all_append, List.all_cons, List.all_nil, Bool.and_true] at hih
    have hms : msOf (labs (o ++ [t])) (tg.take i ++ [tg.getD i 0]) = msOf (labs (o ++ [t])) (tg.take i) ++ [.sc (.int .i64 ((labs (o ++ [t])).getD (tg.getD i 0).toNat 0 : Nat))] := by simp [msOf]
    rw [hms] at hih
    have hA := lab_step (X := X) g.toStand g.e ((tg.take i).all fun x => decide (x < (o ++ [t]).length)) (tg.getD i 0) (htg _ hmem) c
    refine good_of_tree names (tbL_tree X _ (okR R (((tg.take i).all fun x => decide (x < (o ++ [t]).length)) && decide (tg.getD i 0 < (o ++ [t]).length)) 6 c) R R R R R R r a b nn tg ll le c i i (msOf (labs (o ++ [t])) (tg.take i)) (tg.getD i 0) ((labs (o ++ [t])).getD (tg.getD i 0).toNat 0 : Nat)) ?_
    have g1 : decide ((i : Int) < (tg.length : Int)) = true := by simp; omega
    have w1 : IntKind.i64.wrap ((i : Int) + 1) = ((i + 1 : Nat) : Int) := by rw [i64In (by omega) (by omega)]; rfl
    have hlim : lim = 70368744177664 := rfl
    simp only [tbLTree, Tree.ok, keep_map, g1, w1, Int.toNat_natCast, Nat.mul_one, isInt_encT, pvInt_encT, inB, Bool.true_eq_false, false_implies, true_implies, true_and, and_true, Bool.and_true, Bool.and_eq_true, decide_eq_true_eq, Nat.ble_eq]
    exact ⟨by omega, hlt, hA, ⟨by omega, by omega⟩, hih⟩

theorem table_run (g : Good R o t n c) (ha : 0 ≤ a ∧ a < 4294967296) (htg : ∀ x ∈ tg, 0 ≤ x ∧ x < 4294967296) (hlen : tg.length ≤ 1000000000) :
    ∃ R', Run X 112 [aggI 14 r a b nn tg ll le, sI .i64 c] R R' ∧ After o t R' (flatV V (labs (o ++ [t])) 14 a tg n t.dead c) := by
  have hll : (labs (o ++ [t])).length = (o ++ [t]).length := by simp [labs]
  obtain ⟨R1, R2, R3, r1, r2, r3, a3⟩ := tab_end (X := X) g ((tg.all fun x => decide (x < (o ++ [t]).length)) && decide (a < (o ++ [t]).length)) (tg.all fun x => (labs (o ++ [t])).getD x.toNat 0 == (labs (o ++ [t])).getD a.toNat 0) ((labs (o ++ [t])).getD a.toNat 0)
  refine ⟨R3, ?_, ?_⟩
  · refine does_of_tree names (tb0_tree X R R R R R R R R r a b nn tg ll le c) ?_
    simp only [tb0Tree, Tree.ok, keep_map]
    cases htg0 : tg with
    | nil =>
      subst htg0
      have hA := lab_step (X := X) g.toStand g.e true a ha c
      have h2 : Am.Good Tryz.prog env (bodyCfg Tryz.prog env 112 2 [.mp 0 0, sI .i64 c, sI .i64 ((labs (o ++ [t])).getD a.toNat 0 : Nat), .os none 0 0 [], sI .i64 0, sI .i64 (0 : Nat)] (memIn X (okR R (true && decide (a < (o ++ [t]).length)) 6 c)) 2 55) (.ret (.tup []) (memOut X R3)) := by
        refine good_of_tree names (tmF_tree X _ R1 R2 R3 R R R R c ((labs (o ++ [t])).getD a.toNat 0 : Nat) 0 0 0 []) ?_
        simp only [tmFTree, Tree.ok, keep_map, Bool.false_eq_true, false_implies, true_implies, true_and, and_true]
        exact ⟨r1, r2, r3⟩
      refine good_of_tree names (tbF_tree X R (okR R (true && decide (a < (o ++ [t]).length)) 6 c) R R R R R R r a b nn [] ll le c 0 0 [] 0 ((labs (o ++ [t])).getD a.toNat 0 : Nat)) ?_
      simp only [tbFTree, Tree.ok, keep_map, List.length_nil]
      refine ⟨fun hq => absurd hq (by decide), fun _ => ⟨hA, h2⟩⟩
    | cons x l =>
      have hlt : 0 < tg.length := by rw [htg0]; simp
      have hA := lab_step (X := X) g.toStand g.e true x (htg x (by rw [htg0]; simp)) c
      have hl1 := tab_loop1 (X := X) (r := r) (b := b) (nn := nn) (ll := ll) (le := le) g ha htg hlen r1 r2 r3 (tg.length - 1) 1 (by omega) (by omega)
      rw [htg0] at hl1
      have hT : (List.take 1 (x :: l)).all (fun x => decide (x < ((o ++ [t]).length : Int))) = (true && decide (x < ((o ++ [t]).length : Int))) := by simp
      rw [hT] at hl1
      refine good_of_tree names (tbF_tree X R (okR R (true && decide (x < (o ++ [t]).length)) 6 c) R R R R R R r a b nn (x :: l) ll le c 0 0 [] x ((labs (o ++ [t])).getD x.toNat 0 : Nat)) ?_
      have g1 : decide (((0 : Nat) : Int) < (((x :: l).length : Nat) : Int)) = true := by simp
      have hlim : lim = 70368744177664 := rfl
      have hgd : (x :: l).getD 0 0 = x := rfl
      simp only [tbFTree, Tree.ok, keep_map, g1, Int.toNat_natCast, Nat.zero_mul, isInt_encT, pvInt_encT, hgd, inB, Bool.true_eq_false, false_implies, true_implies, true_and, and_true, Bool.and_true, Bool.and_eq_true, decide_eq_true_eq, Nat.ble_eq]
      refine ⟨by simp, by simp, hA, ?_⟩
      first | exact ⟨rfl, hl1⟩ | exact ⟨by omega, rfl, hl1⟩ | exact hl1
  · have e1 : flatV V (labs (o ++ [t])) 14 a tg n t.dead c = (match tabV (labs (o ++ [t])) tg a with
      | .inl e => .bad e c
      | .inr k => popV c 1 n t.dead fun n1 => popV c k n1 t.dead fun _ => .ok 0 true c) := rfl
    rw [e1]
    unfold tabV
    rw [hll]
    by_cases hall : (tg.all fun x => decide (x < ((o ++ [t]).length : Int))) = true
    · rw [if_neg (by rw [hall]; decide)]
      rw [hall, Bool.true_and] at a3
      by_cases hlt : a < ((o ++ [t]).length : Int)
      · have hs : (labs (o ++ [t]))[a.toNat]? = some ((labs (o ++ [t])).getD a.toNat 0) := by
          rw [List.getD_eq_getElem?_getD, List.getElem?_eq_getElem (by omega)]; rfl
        rw [hs]
        rw [decide_eq_true hlt, if_neg (by decide)] at a3
        dsimp only
        by_cases hsame : (tg.all fun x => (labs (o ++ [t])).getD x.toNat 0 == (labs (o ++ [t])).getD a.toNat 0) = true
        · rw [if_pos hsame]
          rw [hsame, if_neg (by decide)] at a3
          exact a3
        · rw [if_neg hsame]
          rw [if_pos (by simpa using hsame)] at a3
          exact a3
      · have hs : (labs (o ++ [t]))[a.toNat]? = none := List.getElem?_eq_none (by omega)
        rw [hs]
        rw [decide_eq_false hlt, if_pos rfl] at a3
        exact a3
    · have hall : (tg.all fun x => decide (x < ((o ++ [t]).length : Int))) = false := by simpa using hall
      rw [hall, Bool.false_and, if_pos rfl] at a3
      rw [if_pos hall]
      exact a3

end
end Go.Proofs.YtgbphddecpjlhaaGreatDoor.N
end
