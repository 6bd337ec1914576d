/-
  instr.Check: the going through of instructions, by its trees (printed by a program of mine): the outer loop, its end, the inner loop.
  instr.Deep: the going through of instructions, by its trees (printed by a program of mine): the outer loop, its end, the inner loop.
  instr.Check, instr.Count, instr.Deep: what they tell, of any instructions.
-/
import Derived.Test.YtgbphddecpjlhaaGreatDoorMH

section
namespace Go.Proofs.YtgbphddecpjlhaaGreatDoor.N
open Go Go.Am

def noCall (_ : FuncId) (_ : List AV) (_ : Mem) : Option (AV × Mem) := none
abbrev sP (n : Int) : PV := .sc (.int .i64 n)
noncomputable def recC (l : List Ins) (st : LoopState) (pd : Option Code) : Blk := .ob (loopK Tryz.prog 95 0 st pd) [aL l, .junk, .mp 2 0, .p (.sc (.bool false)), .mp 3 0, .mp 4 0, .mp 5 0, .junk, .junk, aL l, .fn (.func 59) [] [.mp 1 0], .junk, .junk, .junk, .junk, .junk, .junk, .junk, .junk, .junk, .junk, .junk, .junk, .junk, .junk, .junk, .junk, .junk, .junk, .junk, .junk, .junk, .junk, .junk, .junk, .junk, .junk]
noncomputable def memC (l : List Ins) (tags n most : Int) (cells : List AV) : Mem := [recC l .ready none, .pc [.ps l.length 8 (encL l)], .pc [sP 0], .pc [sP tags], .pc [sP n], .pc [sP most], .ob (.gr 111 true) cells]
def outS (_l : List Ins) (_tags _n _most : Int) (_cells : List AV) (k : Nat) (x : List Ins) (d : Int) : FuncId → Nat → Nat → Option (AV → AV) := shapeAt [(59, 3, 3, sI .i64 k), (59, 3, 5, .agg [aL x, sI .i64 d]), (59, 4, 3, sI .i64 k)]
def innS (_l : List Ins) (_tags n _most : Int) (_cells : List AV) (_k : Nat) (_xs : List Ins) (d : Int) (i : Nat) (op r a b nn : Int) (tg : List Int) (ll le : List Ins) (_ok : Bool) : FuncId → Nat → Nat → Option (AV → AV) := shapeAt [(59, 7, 1, aggI op r a b nn tg ll le), (59, 13, 0, sI .i64 ((i + 1 : Nat) : Int)), (59, 10, 5, sI .i64 (d + 1)), (59, 12, 5, sI .i64 (d + 1)), (95, 8, 1, sI .i64 (n + 1))]
def innC (_l : List Ins) (_tags _n _most : Int) (_cells : List AV) (_k : Nat) (_xs : List Ins) (_d : Int) (_i : Nat) (_op _r _a _b _nn : Int) (_tg : List Int) (_ll _le : List Ins) (ok : Bool) (f : FuncId) (_ : List AV) (m : Mem) : Option (AV × Mem) := cond (Nat.beq f 126) (some (sB ok, m)) none
/- out: 42 steps -/
noncomputable def outOrc (l : List Ins) (tags : Int) (n : Int) (most : Int) (cells : List AV) (k : Nat) (x : List Ins) (d : Int) : Orc := orcS noCall noLed [(59, 0), (59, 2)] [(59, 0, 1)] [(59, 3, 4), (59, 3, 5), (59, 4, 4)] (outS l tags n most cells k x d)
def outSc : Sc := .fin
noncomputable def outTree (l : List Ins) (tags : Int) (n : Int) (most : Int) (cells : List AV) (k : Nat) (x : List Ins) (d : Int) : Tree :=
  (.test (decide ((↑(k + 1) : Int) > 0))
   (.need (AV.p (PV.sc (Value.int IntKind.i64 (IntKind.i64.wrap ((↑(k + 1) : Int) - 1)))) = sI IntKind.i64 (↑k : Int))
    (.must (inB (↑k : Int) (k + 1) && true && true)
     (.must ((0 + (↑k : Int).toNat * 2 + 2).ble cells.length && ((normA (Option.some (TypeInfo.mk (TypeDesc.slice 52) "[]api.Instr" 1 24 true 8 8 (Option.some (Value.slice Option.none 0 0)) false #[]).desc) (cells.getD (0 + (↑k : Int).toNat * 2) AV.junk)).snd && ((normA (Option.some (TypeInfo.mk (TypeDesc.int IntKind.i64) "int" 1 8 false 8 8 (Option.some (Value.int IntKind.i64 0)) true #[]).desc) (cells.getD (0 + (↑k : Int).toNat * 2 + 1) AV.junk)).snd && true)) && true)
      (.need (AV.agg [(normA (Option.some (TypeInfo.mk (TypeDesc.slice 52) "[]api.Instr" 1 24 true 8 8 (Option.some (Value.slice Option.none 0 0)) false #[]).desc) (cells.getD (0 + (↑k : Int).toNat * 2) AV.junk)).fst, (normA (Option.some (TypeInfo.mk (TypeDesc.int IntKind.i64) "int" 1 8 false 8 8 (Option.some (Value.int IntKind.i64 0)) true #[]).desc) (cells.getD (0 + (↑k : Int).toNat * 2 + 1) AV.junk)).fst] = AV.agg [aL x, sI IntKind.i64 d])
       (.need (AV.p (PV.sc (Value.int IntKind.i64 (IntKind.i64.wrap ((↑(k + 1) : Int) - 1)))) = sI IntKind.i64 (↑k : Int))
        (.must ((↑k : Int).toNat.ble (k + 1) && true && true && true)
         (.at (bodyCfg Tryz.prog env 59 2 [AV.vy 0, AV.ms 6 0 ((↑k : Int).toNat - 0) 2 Option.none, AV.mp 7 0, AV.p (PV.ps x.length 8 (encL x)), AV.p (PV.sc (Value.int IntKind.i64 (↑x.length : Int))), AV.p (PV.sc (Value.int IntKind.i64 0))] ([Blk.ob (loopK Tryz.prog 95 0 LoopState.ready Option.none) [AV.p (PV.ps l.length 8 (encL l)), AV.junk, AV.mp 2 0, AV.p (PV.sc (Value.bool false)), AV.mp 3 0, AV.mp 4 0, AV.mp 5 0, AV.junk, AV.junk, AV.p (PV.ps l.length 8 (encL l)), AV.fn (Fn.func 59) [] [AV.mp 1 0], AV.junk, AV.junk, AV.junk, AV.junk, AV.junk, AV.junk, AV.junk, AV.junk, AV.junk, AV.junk, AV.junk, AV.junk, AV.junk, AV.junk, AV.junk, AV.junk, AV.junk, AV.junk, AV.junk, AV.junk, AV.junk, AV.junk, AV.junk, AV.junk, AV.junk, AV.junk], Blk.pc [PV.ps l.length 8 (encL l)], Blk.pc [PV.sc (Value.int IntKind.i64 0)], Blk.pc [PV.sc (Value.int IntKind.i64 tags)], Blk.pc [PV.sc (Value.int IntKind.i64 n)], Blk.pc [PV.sc (Value.int IntKind.i64 most)], Blk.ob (ObK.gr 111 true) (List.map keepP cells), Blk.ac [AV.p (PV.ps x.length 8 (encL x)), AV.p (PV.sc (Value.int IntKind.i64 d))]]) 6 64))))))))
   (.out (Out.ret (AV.tup []) [Blk.ob (loopK Tryz.prog 95 0 LoopState.ready Option.none) [AV.p (PV.ps l.length 8 (encL l)), AV.junk, AV.mp 2 0, AV.p (PV.sc (Value.bool false)), AV.mp 3 0, AV.mp 4 0, AV.mp 5 0, AV.junk, AV.junk, AV.p (PV.ps l.length 8 (encL l)), AV.fn (Fn.func 59) [] [AV.mp 1 0], AV.junk, AV.junk, AV.junk, AV.junk, AV.junk, AV.junk, AV.junk, AV.junk, AV.junk, AV.junk, AV.junk, AV.junk, AV.junk, AV.junk, AV.junk, AV.junk, AV.junk, AV.junk, AV.junk, AV.junk, AV.junk, AV.junk, AV.junk, AV.junk, AV.junk, AV.junk], Blk.pc [PV.ps l.length 8 (encL l)], Blk.pc [PV.sc (Value.int IntKind.i64 0)], Blk.pc [PV.sc (Value.int IntKind.i64 tags)], Blk.pc [PV.sc (Value.int IntKind.i64 n)], Blk.pc [PV.sc (Value.int IntKind.i64 most)]])))
theorem out_tree (l : List Ins) (tags : Int) (n : Int) (most : Int) (cells : List AV) (k : Nat) (x : List Ins) (d : Int) : grow Tryz.prog env (outOrc l tags n most cells k x d) 1000000 true (bodyCfg Tryz.prog env 59 0 ([AV.vy 0, AV.ms 6 0 (k + 1) 2 Option.none]) (memC l tags n most cells) 6 64) outSc atEnd = outTree l tags n most cells k x d := by kernel_rfl

/- oue: 11 steps -/
noncomputable def oueOrc : Orc := orcL noCall noLed [(59, 0), (59, 2)] [] []
def oueSc : Sc := .fin
noncomputable def oueTree (l : List Ins) (tags : Int) (n : Int) (most : Int) (_cells : List AV) : Tree :=
  (.out (Out.ret (AV.tup []) [Blk.ob (loopK Tryz.prog 95 0 LoopState.ready Option.none) [AV.p (PV.ps l.length 8 (encL l)), AV.junk, AV.mp 2 0, AV.p (PV.sc (Value.bool false)), AV.mp 3 0, AV.mp 4 0, AV.mp 5 0, AV.junk, AV.junk, AV.p (PV.ps l.length 8 (encL l)), AV.fn (Fn.func 59) [] [AV.mp 1 0], AV.junk, AV.junk, AV.junk, AV.junk, AV.junk, AV.junk, AV.junk, AV.junk, AV.junk, AV.junk, AV.junk, AV.junk, AV.junk, AV.junk, AV.junk, AV.junk, AV.junk, AV.junk, AV.junk, AV.junk, AV.junk, AV.junk, AV.junk, AV.junk, AV.junk, AV.junk], Blk.pc [PV.ps l.length 8 (encL l)], Blk.pc [PV.sc (Value.int IntKind.i64 0)], Blk.pc [PV.sc (Value.int IntKind.i64 tags)], Blk.pc [PV.sc (Value.int IntKind.i64 n)], Blk.pc [PV.sc (Value.int IntKind.i64 most)]]))
theorem oue_tree (l : List Ins) (tags : Int) (n : Int) (most : Int) (cells : List AV) : grow Tryz.prog env oueOrc 1000000 true (bodyCfg Tryz.prog env 59 0 ([AV.vy 0, AV.ms 6 0 0 2 Option.none]) ([recC l LoopState.ready Option.none, Blk.pc [PV.ps l.length 8 (encL l)], Blk.pc [sP 0], Blk.pc [sP tags], Blk.pc [sP n], Blk.pc [sP most], Blk.ob (ObK.gr 111 true) cells]) 6 64) oueSc atEnd = oueTree l tags n most cells := by kernel_rfl

/- inn: 159 steps -/
noncomputable def innOrc (l : List Ins) (tags : Int) (n : Int) (most : Int) (cells : List AV) (k : Nat) (xs : List Ins) (d : Int) (i : Nat) (op : Int) (r : Int) (a : Int) (b : Int) (nn : Int) (tg : List Int) (ll : List Ins) (le : List Ins) (ok : Bool) : Orc := orcS (innC l tags n most cells k xs d i op r a b nn tg ll le ok) noLed [(59, 0), (59, 2)] [(59, 0, 3), (95, 0, 0), (59, 0, 5), (59, 0, 6)] [(59, 7, 0), (59, 7, 1), (59, 10, 8), (59, 12, 8)] (innS l tags n most cells k xs d i op r a b nn tg ll le ok)
def innSc : Sc := .fin
noncomputable def innTree (l : List Ins) (tags : Int) (n : Int) (most : Int) (cells : List AV) (k : Nat) (xs : List Ins) (d : Int) (i : Nat) (op : Int) (r : Int) (a : Int) (b : Int) (nn : Int) (tg : List Int) (ll : List Ins) (le : List Ins) (ok : Bool) : Tree :=
  (.test (decide ((↑i : Int) < (↑xs.length : Int)))
   (.must (inB (↑i : Int) xs.length && true && true)
    (.must (isInt IntKind.i64 ((encL xs).getD ((↑i : Int).toNat * 8) PV.bad) && (isInt IntKind.i64 ((encL xs).getD ((↑i : Int).toNat * 8 + 1) PV.bad) && (isInt IntKind.u32 ((encL xs).getD ((↑i : Int).toNat * 8 + 1 + 1) PV.bad) && (isInt IntKind.u32 ((encL xs).getD ((↑i : Int).toNat * 8 + 1 + 1 + 1) PV.bad) && (isInt IntKind.i32 ((encL xs).getD ((↑i : Int).toNat * 8 + 1 + 1 + 1 + 1) PV.bad) && (isPs ((encL xs).getD ((↑i : Int).toNat * 8 + 1 + 1 + 1 + 1 + 1) PV.bad) && (isPs ((encL xs).getD ((↑i : Int).toNat * 8 + 1 + 1 + 1 + 1 + 1 + 1) PV.bad) && (isPs ((encL xs).getD ((↑i : Int).toNat * 8 + 1 + 1 + 1 + 1 + 1 + 1 + 1) PV.bad) && true))))))) && true)
     (.need (AV.agg [AV.p (PV.sc (Value.int IntKind.i64 (pvInt ((encL xs).getD ((↑i : Int).toNat * 8) PV.bad)))), AV.p (PV.sc (Value.int IntKind.i64 (pvInt ((encL xs).getD ((↑i : Int).toNat * 8 + 1) PV.bad)))), AV.p (PV.sc (Value.int IntKind.u32 (pvInt ((encL xs).getD ((↑i : Int).toNat * 8 + 1 + 1) PV.bad)))), AV.p (PV.sc (Value.int IntKind.u32 (pvInt ((encL xs).getD ((↑i : Int).toNat * 8 + 1 + 1 + 1) PV.bad)))), AV.p (PV.sc (Value.int IntKind.i32 (pvInt ((encL xs).getD ((↑i : Int).toNat * 8 + 1 + 1 + 1 + 1) PV.bad)))), AV.p (PV.ps (psLen ((encL xs).getD ((↑i : Int).toNat * 8 + 1 + 1 + 1 + 1 + 1) PV.bad)) (psSz ((encL xs).getD ((↑i : Int).toNat * 8 + 1 + 1 + 1 + 1 + 1) PV.bad)) (psCells ((encL xs).getD ((↑i : Int).toNat * 8 + 1 + 1 + 1 + 1 + 1) PV.bad))), AV.p (PV.ps (psLen ((encL xs).getD ((↑i : Int).toNat * 8 + 1 + 1 + 1 + 1 + 1 + 1) PV.bad)) (psSz ((encL xs).getD ((↑i : Int).toNat * 8 + 1 + 1 + 1 + 1 + 1 + 1) PV.bad)) (psCells ((encL xs).getD ((↑i : Int).toNat * 8 + 1 + 1 + 1 + 1 + 1 + 1) PV.bad))), AV.p (PV.ps (psLen ((encL xs).getD ((↑i : Int).toNat * 8 + 1 + 1 + 1 + 1 + 1 + 1 + 1) PV.bad)) (psSz ((encL xs).getD ((↑i : Int).toNat * 8 + 1 + 1 + 1 + 1 + 1 + 1 + 1) PV.bad)) (psCells ((encL xs).getD ((↑i : Int).toNat * 8 + 1 + 1 + 1 + 1 + 1 + 1 + 1) PV.bad)))] = aggI op r a b nn tg ll le)
      (.call ⟨126, [AV.agg [AV.p (PV.sc (Value.int IntKind.i64 op)), AV.p (PV.sc (Value.int IntKind.i64 r)), AV.p (PV.sc (Value.int IntKind.u32 a)), AV.p (PV.sc (Value.int IntKind.u32 b)), AV.p (PV.sc (Value.int IntKind.i32 nn)), AV.p (PV.ps tg.length 1 (encT IntKind.u32 tg)), AV.p (PV.ps ll.length 8 (encL ll)), AV.p (PV.ps le.length 8 (encL le))]], [], AV.p (PV.sc (Value.bool ok)), []⟩
       (.test (!ok)
        (.out (Out.ret (AV.tup []) [Blk.ob (loopK Tryz.prog 95 0 (endState (Option.some Code.ret)) (Option.some Code.ret)) [AV.p (PV.ps l.length 8 (encL l)), AV.junk, AV.mp 2 0, AV.p (PV.sc (Value.bool false)), AV.mp 3 0, AV.mp 4 0, AV.mp 5 0, AV.junk, AV.junk, AV.p (PV.ps l.length 8 (encL l)), AV.fn (Fn.func 59) [] [AV.mp 1 0], AV.junk, AV.junk, AV.junk, AV.junk, AV.junk, AV.junk, AV.junk, AV.junk, AV.junk, AV.junk, AV.junk, AV.junk, AV.junk, AV.junk, AV.junk, AV.junk, AV.junk, AV.junk, AV.junk, AV.junk, AV.junk, AV.junk, AV.junk, AV.junk, AV.junk, AV.junk], Blk.pc [PV.ps l.length 8 (encL l)], Blk.pc [PV.sc (Value.int IntKind.i64 2)], Blk.pc [PV.sc (Value.int IntKind.i64 tags)], Blk.pc [PV.sc (Value.int IntKind.i64 n)], Blk.pc [PV.sc (Value.int IntKind.i64 most)]]))
        (.need (AV.p (PV.sc (Value.int IntKind.i64 (IntKind.i64.wrap (n + 1)))) = sI IntKind.i64 (n + 1))
         (.test (decide ((↑ll.length : Int) > 0))
          (.need (AV.p (PV.sc (Value.int IntKind.i64 (IntKind.i64.wrap (d + 1)))) = sI IntKind.i64 (d + 1))
           (.must (((k + 1) * 32).ble lim && (k + 1).ble lim && ((k * 2).ble cells.length && true) && true)
            (.test (decide ((↑le.length : Int) > 0))
             (.need (AV.p (PV.sc (Value.int IntKind.i64 (IntKind.i64.wrap (d + 1)))) = sI IntKind.i64 (d + 1))
              (.must (((k + 1 + 1) * 32).ble lim && (k + 1 + 1).ble lim && (((k + 1) * 2).ble (List.take (k * 2) cells ++ [AV.p (PV.ps ll.length 8 (encL ll)), AV.p (PV.sc (Value.int IntKind.i64 (d + 1)))]).length && true) && true)
               (.need (AV.p (PV.sc (Value.int IntKind.i64 (IntKind.i64.wrap ((↑i : Int) + 1)))) = sI IntKind.i64 (↑(i + 1) : Int))
                (.at (bodyCfg Tryz.prog env 59 2 [AV.vy 0, AV.ms 6 0 (k + 1 + 1) 2 Option.none, AV.mp 7 0, AV.p (PV.ps xs.length 8 (encL xs)), AV.p (PV.sc (Value.int IntKind.i64 (↑xs.length : Int))), AV.p (PV.sc (Value.int IntKind.i64 (↑(i + 1) : Int)))] ([Blk.ob (loopK Tryz.prog 95 0 (endState Option.none) Option.none) [AV.p (PV.ps l.length 8 (encL l)), AV.junk, AV.mp 2 0, AV.p (PV.sc (Value.bool false)), AV.mp 3 0, AV.mp 4 0, AV.mp 5 0, AV.junk, AV.junk, AV.p (PV.ps l.length 8 (encL l)), AV.fn (Fn.func 59) [] [AV.mp 1 0], AV.junk, AV.junk, AV.junk, AV.junk, AV.junk, AV.junk, AV.junk, AV.junk, AV.junk, AV.junk, AV.junk, AV.junk, AV.junk, AV.junk, AV.junk, AV.junk, AV.junk, AV.junk, AV.junk, AV.junk, AV.junk, AV.junk, AV.junk, AV.junk, AV.junk, AV.junk], Blk.pc [PV.ps l.length 8 (encL l)], Blk.pc [PV.sc (Value.int IntKind.i64 0)], Blk.pc [PV.sc (Value.int IntKind.i64 (bif false then Min.min tags (↑tg.length : Int) else Max.max tags (↑tg.length : Int)))], Blk.pc [PV.sc (Value.int IntKind.i64 (n + 1))], Blk.pc [PV.sc (Value.int IntKind.i64 (bif false then Min.min most d else Max.max most d))], Blk.ob (ObK.gr 111 true) (List.map keepP (List.take ((k + 1) * 2) (List.take (k * 2) cells ++ [AV.p (PV.ps ll.length 8 (encL ll)), AV.p (PV.sc (Value.int IntKind.i64 (d + 1)))]) ++ [AV.p (PV.ps le.length 8 (encL le)), AV.p (PV.sc (Value.int IntKind.i64 (d + 1)))])), Blk.ac [AV.p (PV.ps xs.length 8 (encL xs)), AV.p (PV.sc (Value.int IntKind.i64 d))]]) 6 64)))))
             (.need (AV.p (PV.sc (Value.int IntKind.i64 (IntKind.i64.wrap ((↑i : Int) + 1)))) = sI IntKind.i64 (↑(i + 1) : Int))
              (.at (bodyCfg Tryz.prog env 59 2 [AV.vy 0, AV.ms 6 0 (k + 1) 2 Option.none, AV.mp 7 0, AV.p (PV.ps xs.length 8 (encL xs)), AV.p (PV.sc (Value.int IntKind.i64 (↑xs.length : Int))), AV.p (PV.sc (Value.int IntKind.i64 (↑(i + 1) : Int)))] ([Blk.ob (loopK Tryz.prog 95 0 (endState Option.none) Option.none) [AV.p (PV.ps l.length 8 (encL l)), AV.junk, AV.mp 2 0, AV.p (PV.sc (Value.bool false)), AV.mp 3 0, AV.mp 4 0, AV.mp 5 0, AV.junk, AV.junk, AV.p (PV.ps l.length 8 (encL l)), AV.fn (Fn.func 59) [] [AV.mp 1 0], AV.junk, AV.junk, AV.junk, AV.junk, AV.junk, AV.junk, AV.junk, AV.junk, AV.junk, AV.junk, AV.junk, AV.junk, AV.junk, AV.junk, AV.junk, AV.junk, AV.junk, AV.junk, AV.junk, AV.junk, AV.junk, AV.junk, AV.junk, AV.junk, AV.junk, AV.junk], Blk.pc [PV.ps l.length 8 (encL l)], Blk.pc [PV.sc (Value.int IntKind.i64 0)], Blk.pc [PV.sc (Value.int IntKind.i64 (bif false then Min.min tags (↑tg.length : Int) else Max.max tags (↑tg.length : Int)))], Blk.pc [PV.sc (Value.int IntKind.i64 (n + 1))], Blk.pc [PV.sc (Value.int IntKind.i64 (bif false then Min.min most d else Max.max most d))], Blk.ob (ObK.gr 111 true) (List.map keepP (List.take (k * 2) cells ++ [AV.p (PV.ps ll.length 8 (encL ll)), AV.p (PV.sc (Value.int IntKind.i64 (d + 1)))])), Blk.ac [AV.p (PV.ps xs.length 8 (encL xs)), AV.p (PV.sc (Value.int IntKind.i64 d))]]) 6 64))))))
          (.test (decide ((↑le.length : Int) > 0))
           (.need (AV.p (PV.sc (Value.int IntKind.i64 (IntKind.i64.wrap (d + 1)))) = sI IntKind.i64 (d + 1))
            (.must (((k + 1) * 32).ble lim && (k + 1).ble lim && ((k * 2).ble cells.length && true) && true)
             (.need (AV.p (PV.sc (Value.int IntKind.i64 (IntKind.i64.wrap ((↑i : Int) + 1)))) = sI IntKind.i64 (↑(i + 1) : Int))
              (.at (bodyCfg Tryz.prog env 59 2 [AV.vy 0, AV.ms 6 0 (k + 1) 2 Option.none, AV.mp 7 0, AV.p (PV.ps xs.length 8 (encL xs)), AV.p (PV.sc (Value.int IntKind.i64 (↑xs.length : Int))), AV.p (PV.sc (Value.int IntKind.i64 (↑(i + 1) : Int)))] ([Blk.ob (loopK Tryz.prog 95 0 (endState Option.none) Option.none) [AV.p (PV.ps l.length 8 (encL l)), AV.junk, AV.mp 2 0, AV.p (PV.sc (Value.bool false)), AV.mp 3 0, AV.mp 4 0, AV.mp 5 0, AV.junk, AV.junk, AV.p (PV.ps l.length 8 (encL l)), AV.fn (Fn.func 59) [] [AV.mp 1 0], AV.junk, AV.junk, AV.junk, AV.junk, AV.junk, AV.junk, AV.junk, AV.junk, AV.junk, AV.junk, AV.junk, AV.junk, AV.junk, AV.junk, AV.junk, AV.junk, AV.junk, AV.junk, AV.junk, AV.junk, AV.junk, AV.junk, AV.junk, AV.junk, AV.junk, AV.junk], Blk.pc [PV.ps l.length 8 (encL l)], Blk.pc [PV.sc (Value.int IntKind.i64 0)], Blk.pc [PV.sc (Value.int IntKind.i64 (bif false then Min.min tags (↑tg.length : Int) else Max.max tags (↑tg.length : Int)))], Blk.pc [PV.sc (Value.int IntKind.i64 (n + 1))], Blk.pc [PV.sc (Value.int IntKind.i64 (bif false then Min.min most d else Max.max most d))], Blk.ob (ObK.gr 111 true) (List.map keepP (List.take (k * 2) cells ++ [AV.p (PV.ps le.length 8 (encL le)), AV.p (PV.sc (Value.int IntKind.i64 (d + 1)))])), Blk.ac [AV.p (PV.ps xs.length 8 (encL xs)), AV.p (PV.sc (Value.int IntKind.i64 d))]]) 6 64)))))
           (.need (AV.p (PV.sc (Value.int IntKind.i64 (IntKind.i64.wrap ((↑i : Int) + 1)))) = sI IntKind.i64 (↑(i + 1) : Int))
            (.at (bodyCfg Tryz.prog env 59 2 [AV.vy 0, AV.ms 6 0 k 2 Option.none, AV.mp 7 0, AV.p (PV.ps xs.length 8 (encL xs)), AV.p (PV.sc (Value.int IntKind.i64 (↑xs.length : Int))), AV.p (PV.sc (Value.int IntKind.i64 (↑(i + 1) : Int)))] ([Blk.ob (loopK Tryz.prog 95 0 (endState Option.none) Option.none) [AV.p (PV.ps l.length 8 (encL l)), AV.junk, AV.mp 2 0, AV.p (PV.sc (Value.bool false)), AV.mp 3 0, AV.mp 4 0, AV.mp 5 0, AV.junk, AV.junk, AV.p (PV.ps l.length 8 (encL l)), AV.fn (Fn.func 59) [] [AV.mp 1 0], AV.junk, AV.junk, AV.junk, AV.junk, AV.junk, AV.junk, AV.junk, AV.junk, AV.junk, AV.junk, AV.junk, AV.junk, AV.junk, AV.junk, AV.junk, AV.junk, AV.junk, AV.junk, AV.junk, AV.junk, AV.junk, AV.junk, AV.junk, AV.junk, AV.junk, AV.junk], Blk.pc [PV.ps l.length 8 (encL l)], Blk.pc [PV.sc (Value.int IntKind.i64 0)], Blk.pc [PV.sc (Value.int IntKind.i64 (bif false then Min.min tags (↑tg.length : Int) else Max.max tags (↑tg.length : Int)))], Blk.pc [PV.sc (Value.int IntKind.i64 (n + 1))], Blk.pc [PV.sc (Value.int IntKind.i64 (bif false then Min.min most d else Max.max most d))], Blk.ob (ObK.gr 111 true) (List.map keepP cells), Blk.ac [AV.p (PV.ps xs.length 8 (encL xs)), AV.p (PV.sc (Value.int IntKind.i64 d))]]) 6 64)))))))))))
   (.at (bodyCfg Tryz.prog env 59 0 [AV.vy 0, AV.ms 6 0 k 2 Option.none] ([Blk.ob (loopK Tryz.prog 95 0 LoopState.ready Option.none) [AV.p (PV.ps l.length 8 (encL l)), AV.junk, AV.mp 2 0, AV.p (PV.sc (Value.bool false)), AV.mp 3 0, AV.mp 4 0, AV.mp 5 0, AV.junk, AV.junk, AV.p (PV.ps l.length 8 (encL l)), AV.fn (Fn.func 59) [] [AV.mp 1 0], AV.junk, AV.junk, AV.junk, AV.junk, AV.junk, AV.junk, AV.junk, AV.junk, AV.junk, AV.junk, AV.junk, AV.junk, AV.junk, AV.junk, AV.junk, AV.junk, AV.junk, AV.junk, AV.junk, AV.junk, AV.junk, AV.junk, AV.junk, AV.junk, AV.junk, AV.junk], Blk.pc [PV.ps l.length 8 (encL l)], Blk.pc [PV.sc (Value.int IntKind.i64 0)], Blk.pc [PV.sc (Value.int IntKind.i64 tags)], Blk.pc [PV.sc (Value.int IntKind.i64 n)], Blk.pc [PV.sc (Value.int IntKind.i64 most)], Blk.ob (ObK.gr 111 true) (List.map keepP cells)]) 6 64)))
theorem inn_tree (l : List Ins) (tags : Int) (n : Int) (most : Int) (cells : List AV) (k : Nat) (xs : List Ins) (d : Int) (i : Nat) (op : Int) (r : Int) (a : Int) (b : Int) (nn : Int) (tg : List Int) (ll : List Ins) (le : List Ins) (ok : Bool) : grow Tryz.prog env (innOrc l tags n most cells k xs d i op r a b nn tg ll le ok) 1000000 true (bodyCfg Tryz.prog env 59 2 ([AV.vy 0, AV.ms 6 0 k 2 Option.none, AV.mp 7 0, aL xs, sI IntKind.i64 (↑xs.length : Int), sI IntKind.i64 (↑i : Int)]) (memC l tags n most cells ++ [Blk.ac [aL xs, sI IntKind.i64 d]]) 6 64) innSc atEnd = innTree l tags n most cells k xs d i op r a b nn tg ll le ok := by kernel_rfl


/-- How the memory is at the end: all gone through; or one was not as it should be. -/
noncomputable def finC (l : List Ins) (tags n most : Int) : Out := .ret (.tup []) [recC l .ready none, .pc [.ps l.length 8 (encL l)], .pc [sP 0], .pc [sP tags], .pc [sP n], .pc [sP most]]
noncomputable def badC (l : List Ins) (tags n most : Int) : Out := .ret (.tup []) [recC l .done (some .ret), .pc [.ps l.length 8 (encL l)], .pc [sP 2], .pc [sP tags], .pc [sP n], .pc [sP most]]

def bigN : Nat := 1000000000000

/-- What is told of a stack that is gone through. -/
def ToldC (p : Ins → Bool) (l : List Ins) (st : InsS) (tags n most : Nat) (o : Out) : Prop :=
  (okS p st = true ∧ o = finC l (max tags (tagS st) : Nat) (n + numS st : Nat) (max most (depS st) : Nat)) ∨ (okS p st = false ∧ ∃ t k m, o = badC l t k m)


section
variable (p : Ins → Bool) (hp : ∀ x : Ins, Does Tryz.prog env 126 [aggX x] [] (sB (p x)) []) (l : List Ins)


include hp in
theorem chk_inner (N : Nat) (ih : ∀ (st : InsS) (cells : List AV) (tags n most : Nat), wS st < N → StkAt st cells → n + numS st ≤ bigN → wS st ≤ bigN → (∀ e ∈ st, e.2 + numL e.1 ≤ bigN) →
      ∃ o, Am.Good Tryz.prog env (bodyCfg Tryz.prog env 59 0 [.vy 0, .ms 6 0 st.length 2 none] (memC l tags n most cells) 6 64) o ∧ ToldC p l st tags n most o) (xs : List Ins) (hxs : xs.length ≤ bigN) (d : Nat) :
    ∀ (r i : Nat) (st : InsS) (cells : List AV) (tags n most : Nat), i + r = xs.length → wS st + 2 * numL (xs.drop i) < N → StkAt st cells → n + numS st + numL (xs.drop i) ≤ bigN → wS st + 2 * numL (xs.drop i) ≤ bigN → (∀ e ∈ st, e.2 + numL e.1 ≤ bigN) → d + numL (xs.drop i) ≤ bigN →
      ∃ o, Am.Good Tryz.prog env (bodyCfg Tryz.prog env 59 2 [.vy 0, .ms 6 0 st.length 2 none, .mp 7 0, aL xs, sI .i64 xs.length, sI .i64 i] (memC l tags n most cells ++ [.ac [aL xs, sI .i64 d]]) 6 64) o ∧ ToldC p l (st ++ [(xs.drop i, d)]) tags n most o := by
  intro r
  induction r with
  | zero =>
    intro i st cells tags n most hi hN ht hn hw he hd
    have h1 : xs.drop i = [] := List.drop_eq_nil_of_le (by omega)
    rw [h1] at hN hn hw ⊢
    simp only [numL] at hN hn hw
    obtain ⟨o, ho, hq⟩ := ih st (cells.map keepP) tags n most (by omega) ht.keep (by omega) (by omega) he
    refine ⟨o, good_of_tree names (inn_tree l tags n most cells st.length xs d i 0 0 0 0 0 [] [] [] true) ?_, ?_⟩
    · have h2 : ¬ ((i : Int) < xs.length) := by omega
      simp only [innTree, Tree.ok]
      exact ⟨fun h => absurd (by simpa using h) h2, fun _ => ho⟩
    · unfold ToldC at hq ⊢
      rw [okS_append, numS_append, tagS_append, depS_append]
      simpa [okL, numL, tagL, depL] using hq
  | succ r ihr =>
    intro i st cells tags n most hi hN ht hn hw he hd
    have hkl : i < xs.length := by omega
    have hgx : xs[i]? = some xs[i] := List.getElem?_eq_getElem hkl
    have hdr : xs.drop i = xs[i] :: xs.drop (i + 1) := List.drop_eq_getElem_cons hkl
    rw [hdr] at hN hn hw hd ⊢
    generalize xs[i] = x at *
    generalize hys : xs.drop (i + 1) = ys at *
    obtain ⟨op, rs, a, b, nn, tg, ll, le⟩ := x
    obtain ⟨c0, c1, c2, c3, c4, c5, c6, c7⟩ := cells_at hgx
    have hpx := hp (.mk op rs a b nn tg ll le)
    have hbig : bigN = 1000000000000 := rfl
    have hlim : lim = 70368744177664 := rfl
    simp only [numL, numI] at hN hn hw hd
    have hsl := wS_length st
    have hcl := ht.len
    have w1 : IntKind.i64.wrap ((i : Int) + 1) = ((i + 1 : Nat) : Int) := by rw [i64In (by omega) (by omega)]; rfl
    have w2 : IntKind.i64.wrap ((d : Int) + 1) = ((d + 1 : Nat) : Int) := by rw [i64In (by omega) (by omega)]; rfl
    have w3 : IntKind.i64.wrap ((n : Int) + 1) = ((n + 1 : Nat) : Int) := by rw [i64In (by omega) (by omega)]; rfl
    have hiI : (i : Int) < (xs.length : Int) := by omega
    cases hok : p (.mk op rs a b nn tg ll le) with
    | false =>
      refine ⟨badC l tags n most, good_of_tree names (inn_tree l tags n most cells st.length xs d i op rs a b nn tg ll le false) ?_, .inr ⟨?_, _, _, _, rfl⟩⟩
      · simp only [innTree, Tree.ok, Int.toNat_natCast, Nat.add_assoc, Nat.reduceAdd, c0, c1, c2, c3, c4, c5, c6, c7, isInt, isPs, pvInt, psLen, psSz, psCells, inB]
        refine ⟨fun _ => ⟨by simp [hiI], by simp, rfl, ?_, fun _ => rfl, fun h => by cases h⟩, fun h => absurd hiI (by simpa using h)⟩
        rw [hok] at hpx; exact hpx
      · rw [okS_append, okS_one, okL, okI, hok]; simp
    | true =>
      -- what is pushed
      have next : ∀ (s : InsS) (cs : List AV), StkAt (st ++ s) cs → wS s ≤ 2 * (numL ll + numL le) + 2 → numS s = numL ll + numL le → okS p s = (okL p ll && okL p le) → tagS s = max (tagL ll) (tagL le) → depS s = max (depL (d + 1) ll) (depL (d + 1) le) → (∀ e ∈ s, e.2 + numL e.1 ≤ bigN) →
          ∃ o, Am.Good Tryz.prog env (bodyCfg Tryz.prog env 59 2 [.vy 0, .ms 6 0 (st ++ s).length 2 none, .mp 7 0, aL xs, sI .i64 xs.length, sI .i64 (i + 1 : Nat)] (memC l (max tags tg.length : Nat) (n + 1 : Nat) (max most d : Nat) cs ++ [.ac [aL xs, sI .i64 d]]) 6 64) o ∧ ToldC p l (st ++ [(.mk op rs a b nn tg ll le :: ys, d)]) tags n most o := by
        intro s cs hts hws hns hos htg hds hes
        obtain ⟨o, ho, hq⟩ := ihr (i + 1) (st ++ s) cs (max tags tg.length) (n + 1) (max most d) (by omega) (by rw [wS_append, hys]; omega) hts (by rw [numS_append, hys]; omega) (by rw [wS_append, hys]; omega)
          (fun e hm => (List.mem_append.1 hm).elim (he e) (hes e)) (by rw [hys]; omega)
        refine ⟨o, ho, ?_⟩
        rw [hys] at hq
        unfold ToldC at hq ⊢
        simp only [okS_append, numS_append, tagS_append, depS_append, okS_one, numS_one, tagS_one, depS_one, hos, hns, htg, hds] at hq ⊢
        simp only [okL, okI, numL, numI, tagL, tagI, depL, depI, hok, Bool.true_and]
        rcases hq with ⟨q1, q2⟩ | ⟨q1, q2⟩
        · refine .inl ⟨by rw [Bool.and_assoc] at q1; exact q1, ?_⟩
          rw [q2]
          congr 1 <;> congr 1 <;> omega
        · exact .inr ⟨by rw [Bool.and_assoc] at q1; exact q1, q2⟩
      have tree := inn_tree l tags n most cells st.length xs d i op rs a b nn tg ll le true
      have hpx' : Does Tryz.prog env 126 [aggI op rs a b nn tg ll le] [] (sB true) [] := by rw [hok] at hpx; exact hpx
      have mx1 : max (tags : Int) (tg.length : Int) = ((max tags tg.length : Nat) : Int) := by omega
      have mx2 : max (most : Int) (d : Int) = ((max most d : Nat) : Int) := by omega
      have nl : ∀ z : List Ins, z ≠ [] → 0 < (z.length : Int) := fun z hz => by have := List.length_pos_iff.2 hz; omega
      by_cases hll : ll = []
      · by_cases hle : le = []
        · subst hll; subst hle
          obtain ⟨o, ho, hq⟩ := next [] (cells.map keepP) (by rw [List.append_nil]; exact ht.keep) (by simp [wS, numL]) (by simp [numS, numL]) (by simp [okS, okL]) (by simp [tagS, tagL]) (by simp [depS, depL]) (fun _ h => by cases h)
          refine ⟨o, good_of_tree names tree ?_, hq⟩
          simp only [innTree, Tree.ok, Int.toNat_natCast, Nat.add_assoc, Nat.reduceAdd, c0, c1, c2, c3, c4, c5, c6, c7, isInt, isPs, pvInt, psLen, psSz, psCells, inB, w1, w2, w3, cond_false, mx1, mx2]
          rw [List.append_nil] at ho
          exact ⟨fun _ => ⟨by simp [hiI], by simp, rfl, hpx', fun h => (by cases h), fun _ => ⟨rfl, fun h => (by simp at h), fun _ => ⟨fun h => (by simp at h), fun _ => ⟨(by trivial), ho⟩⟩⟩⟩, fun h => absurd hiI (by simpa using h)⟩
        · subst hll
          have nle := nl le hle
          obtain ⟨o, ho, hq⟩ := next [(le, d + 1)] _ (ht.push le (d + 1)).keep (by simp [numL]) (by simp [numL]) (by simp [okL]) (by simp [tagL]) (by simp [depL]) (fun e h => by simp only [List.mem_singleton] at h; subst h; simp only; omega)
          refine ⟨o, good_of_tree names tree ?_, hq⟩
          simp only [innTree, Tree.ok, Int.toNat_natCast, Nat.add_assoc, Nat.reduceAdd, c0, c1, c2, c3, c4, c5, c6, c7, isInt, isPs, pvInt, psLen, psSz, psCells, inB, w1, w2, w3, cond_false, mx1, mx2]
          rw [List.length_append] at ho
          exact ⟨fun _ => ⟨by simp [hiI], by simp, rfl, hpx', fun h => (by cases h), fun _ => ⟨rfl, fun h => (by simp at h), fun _ => ⟨fun _ => ⟨rfl, (by simp; omega), (by trivial), ho⟩, fun h => absurd nle (by simpa using h)⟩⟩⟩, fun h => absurd hiI (by simpa using h)⟩
      · have nll := nl ll hll
        by_cases hle : le = []
        · subst hle
          obtain ⟨o, ho, hq⟩ := next [(ll, d + 1)] _ (ht.push ll (d + 1)).keep (by simp [numL]) (by simp [numL]) (by simp [okL]) (by simp [tagL]) (by simp [depL]) (fun e h => by simp only [List.mem_singleton] at h; subst h; simp only; omega)
          refine ⟨o, good_of_tree names tree ?_, hq⟩
          simp only [innTree, Tree.ok, Int.toNat_natCast, Nat.add_assoc, Nat.reduceAdd, c0, c1, c2, c3, c4, c5, c6, c7, isInt, isPs, pvInt, psLen, psSz, psCells, inB, w1, w2, w3, cond_false, mx1, mx2]
          rw [List.length_append] at ho
          exact ⟨fun _ => ⟨by simp [hiI], by simp, rfl, hpx', fun h => (by cases h), fun _ => ⟨rfl, fun _ => ⟨rfl, (by simp; omega), fun h => (by simp at h), fun _ => ⟨(by trivial), ho⟩⟩, fun h => absurd nll (by simpa using h)⟩⟩, fun h => absurd hiI (by simpa using h)⟩
        · have nle := nl le hle
          have hp2 := (ht.push ll (d + 1)).push le (d + 1)
          rw [List.append_assoc] at hp2
          obtain ⟨o, ho, hq⟩ := next [(ll, d + 1), (le, d + 1)] _ hp2.keep (by simp [wS]; omega) (by simp [numS]) (by simp [okS]) (by simp [tagS]) (by simp [depS]) (fun e h => by simp only [List.mem_cons, List.not_mem_nil, or_false] at h; rcases h with rfl | rfl <;> simp only <;> omega)
          refine ⟨o, good_of_tree names tree ?_, hq⟩
          simp only [innTree, Tree.ok, Int.toNat_natCast, Nat.add_assoc, Nat.reduceAdd, c0, c1, c2, c3, c4, c5, c6, c7, isInt, isPs, pvInt, psLen, psSz, psCells, inB, w1, w2, w3, cond_false, mx1, mx2]
          simp only [List.length_append, List.length_cons, List.length_nil, Nat.reduceAdd] at ho
          exact ⟨fun _ => ⟨by simp [hiI], by simp, rfl, hpx', fun h => (by cases h), fun _ => ⟨rfl, fun _ => ⟨rfl, (by simp; omega), fun _ => ⟨rfl, (by simp; omega), (by trivial), ho⟩, fun h => absurd nle (by simpa using h)⟩, fun h => absurd nll (by simpa using h)⟩⟩, fun h => absurd hiI (by simpa using h)⟩

include hp in
theorem chk_outer : ∀ (N : Nat) (st : InsS) (cells : List AV) (tags n most : Nat), wS st < N → StkAt st cells → n + numS st ≤ bigN → wS st ≤ bigN → (∀ e ∈ st, e.2 + numL e.1 ≤ bigN) →
      ∃ o, Am.Good Tryz.prog env (bodyCfg Tryz.prog env 59 0 [.vy 0, .ms 6 0 st.length 2 none] (memC l tags n most cells) 6 64) o ∧ ToldC p l st tags n most o
  | 0, _, _, _, _, _, h, _, _, _, _ => by omega
  | N + 1, st, cells, tags, n, most, hN, ht, hn, hw, he => by
    rcases List.eq_nil_or_concat st with rfl | ⟨s, ⟨x, d⟩, rfl⟩
    · exact ⟨_, good_of_tree names (oue_tree l tags n most cells) rfl, .inl ⟨rfl, (by simp [tagS, numS, depS]; rfl)⟩⟩
    · rw [List.concat_eq_append] at *
      have hx := he (x, d) (by simp)
      rw [wS_append, wS_one] at hN hw
      rw [numS_append, numS_one] at hn
      obtain ⟨t0, t1⟩ := ht.top
      have hcl := ht.len
      have hsl := wS_length s
      have hbig : bigN = 1000000000000 := rfl
      have hnx := numL_length x
      simp only [List.length_append, List.length_cons, List.length_nil] at hcl hx
      obtain ⟨o, ho, hq⟩ := chk_inner p hp l N (fun st cells tags n most => chk_outer N st cells tags n most) x (by omega) d x.length 0 s (cells.map keepP) tags n most (by omega) (by rw [List.drop_zero]; omega) ht.pop.keep (by rw [List.drop_zero]; omega) (by rw [List.drop_zero]; omega)
        (fun e hm => he e (List.mem_append_left _ hm)) (by rw [List.drop_zero]; omega)
      rw [List.drop_zero] at hq
      refine ⟨o, ?_, hq⟩
      have w1 : IntKind.i64.wrap (((s.length + 1 : Nat) : Int) - 1) = (s.length : Int) := by rw [i64In (by omega) (by omega)]; omega
      rw [List.length_append, List.length_singleton]
      refine good_of_tree names (out_tree l tags n most cells s.length x d) ?_
      simp only [outTree, Tree.ok, Int.toNat_natCast, Nat.zero_add, t0, t1, normA, normP, w1, isInt, isPs, pvInt, psLen, psSz, psCells, inB, Nat.sub_zero]
      exact ⟨fun _ => ⟨(by trivial), (by simp; omega), (by simp; omega), (by trivial), (by trivial), (by simp), ho⟩, fun h => absurd h (by simp)⟩

end
end Go.Proofs.YtgbphddecpjlhaaGreatDoor.N
end

section
namespace Go.Proofs.YtgbphddecpjlhaaGreatDoor.N
open Go Go.Am

noncomputable def recd (l : List Ins) (st : LoopState) (pd : Option Code) : Blk := .ob (loopK Tryz.prog 13 0 st pd) [aL l, .junk, .p (.sc (.int .i64 0)), .mp 2 0, .junk, aL l, .fn (.func 59) [] [.mp 1 0], .junk, .junk, .junk, .junk, .junk, .junk]
noncomputable def memd (l : List Ins) (n : Int) (cells : List AV) : Mem := [recd l .ready none, .pc [.ps l.length 8 (encL l)], .pc [sP n], .ob (.gr 111 true) cells]
def doutS (_l : List Ins) (_n : Int) (_cells : List AV) (k : Nat) (x : List Ins) (d : Int) : FuncId → Nat → Nat → Option (AV → AV) := shapeAt [(59, 3, 3, sI .i64 k), (59, 3, 5, .agg [aL x, sI .i64 d]), (59, 4, 3, sI .i64 k)]
def dinnS (_l : List Ins) (_n : Int) (_cells : List AV) (_k : Nat) (_xs : List Ins) (d : Int) (i : Nat) (op r a b nn : Int) (tg : List Int) (ll le : List Ins) (_ok : Bool) : FuncId → Nat → Nat → Option (AV → AV) := shapeAt [(59, 7, 1, aggI op r a b nn tg ll le), (59, 13, 0, sI .i64 ((i + 1 : Nat) : Int)), (59, 10, 5, sI .i64 (d + 1)), (59, 12, 5, sI .i64 (d + 1))]
def dinnC (_l : List Ins) (_n : Int) (_cells : List AV) (_k : Nat) (_xs : List Ins) (_d : Int) (_i : Nat) (_op _r _a _b _nn : Int) (_tg : List Int) (_ll _le : List Ins) (ok : Bool) (f : FuncId) (_ : List AV) (m : Mem) : Option (AV × Mem) := cond (Nat.beq f 126) (some (sB ok, m)) none
/- dout: 42 steps -/
noncomputable def doutOrc (l : List Ins) (n : Int) (cells : List AV) (k : Nat) (x : List Ins) (d : Int) : Orc := orcS noCall noLed [(59, 0), (59, 2)] [(59, 0, 1)] [(59, 3, 4), (59, 3, 5), (59, 4, 4)] (doutS l n cells k x d)
def doutSc : Sc := .fin
noncomputable def doutTree (l : List Ins) (n : Int) (cells : List AV) (k : Nat) (x : List Ins) (d : Int) : Tree :=
  (.test (decide ((↑(k + 1) : Int) > 0))
   (.need (AV.p (PV.sc (Value.int IntKind.i64 (IntKind.i64.wrap ((↑(k + 1) : Int) - 1)))) = sI IntKind.i64 (↑k : Int))
    (.must (inB (↑k : Int) (k + 1) && true && true)
     (.must ((0 + (↑k : Int).toNat * 2 + 2).ble cells.length && ((normA (Option.some (TypeInfo.mk (TypeDesc.slice 52) "[]api.Instr" 1 24 true 8 8 (Option.some (Value.slice Option.none 0 0)) false #[]).desc) (cells.getD (0 + (↑k : Int).toNat * 2) AV.junk)).snd && ((normA (Option.some (TypeInfo.mk (TypeDesc.int IntKind.i64) "int" 1 8 false 8 8 (Option.some (Value.int IntKind.i64 0)) true #[]).desc) (cells.getD (0 + (↑k : Int).toNat * 2 + 1) AV.junk)).snd && true)) && true)
      (.need (AV.agg [(normA (Option.some (TypeInfo.mk (TypeDesc.slice 52) "[]api.Instr" 1 24 true 8 8 (Option.some (Value.slice Option.none 0 0)) false #[]).desc) (cells.getD (0 + (↑k : Int).toNat * 2) AV.junk)).fst, (normA (Option.some (TypeInfo.mk (TypeDesc.int IntKind.i64) "int" 1 8 false 8 8 (Option.some (Value.int IntKind.i64 0)) true #[]).desc) (cells.getD (0 + (↑k : Int).toNat * 2 + 1) AV.junk)).fst] = AV.agg [aL x, sI IntKind.i64 d])
       (.need (AV.p (PV.sc (Value.int IntKind.i64 (IntKind.i64.wrap ((↑(k + 1) : Int) - 1)))) = sI IntKind.i64 (↑k : Int))
        (.must ((↑k : Int).toNat.ble (k + 1) && true && true && true)
         (.at (bodyCfg Tryz.prog env 59 2 [AV.vy 0, AV.ms 3 0 ((↑k : Int).toNat - 0) 2 Option.none, AV.mp 4 0, AV.p (PV.ps x.length 8 (encL x)), AV.p (PV.sc (Value.int IntKind.i64 (↑x.length : Int))), AV.p (PV.sc (Value.int IntKind.i64 0))] ([Blk.ob (loopK Tryz.prog 13 0 LoopState.ready Option.none) [AV.p (PV.ps l.length 8 (encL l)), AV.junk, AV.p (PV.sc (Value.int IntKind.i64 0)), AV.mp 2 0, AV.junk, AV.p (PV.ps l.length 8 (encL l)), AV.fn (Fn.func 59) [] [AV.mp 1 0], AV.junk, AV.junk, AV.junk, AV.junk, AV.junk, AV.junk], Blk.pc [PV.ps l.length 8 (encL l)], Blk.pc [PV.sc (Value.int IntKind.i64 n)], Blk.ob (ObK.gr 111 true) (List.map keepP cells), Blk.ac [AV.p (PV.ps x.length 8 (encL x)), AV.p (PV.sc (Value.int IntKind.i64 d))]]) 3 64))))))))
   (.out (Out.ret (AV.tup []) [Blk.ob (loopK Tryz.prog 13 0 LoopState.ready Option.none) [AV.p (PV.ps l.length 8 (encL l)), AV.junk, AV.p (PV.sc (Value.int IntKind.i64 0)), AV.mp 2 0, AV.junk, AV.p (PV.ps l.length 8 (encL l)), AV.fn (Fn.func 59) [] [AV.mp 1 0], AV.junk, AV.junk, AV.junk, AV.junk, AV.junk, AV.junk], Blk.pc [PV.ps l.length 8 (encL l)], Blk.pc [PV.sc (Value.int IntKind.i64 n)]])))
theorem dout_tree (l : List Ins) (n : Int) (cells : List AV) (k : Nat) (x : List Ins) (d : Int) : grow Tryz.prog env (doutOrc l n cells k x d) 1000000 true (bodyCfg Tryz.prog env 59 0 ([AV.vy 0, AV.ms 3 0 (k + 1) 2 Option.none]) (memd l n cells) 3 64) doutSc atEnd = doutTree l n cells k x d := by kernel_rfl

/- doue: 11 steps -/
noncomputable def doueOrc : Orc := orcL noCall noLed [(59, 0), (59, 2)] [] []
def doueSc : Sc := .fin
noncomputable def doueTree (l : List Ins) (n : Int) (_cells : List AV) : Tree :=
  (.out (Out.ret (AV.tup []) [Blk.ob (loopK Tryz.prog 13 0 LoopState.ready Option.none) [AV.p (PV.ps l.length 8 (encL l)), AV.junk, AV.p (PV.sc (Value.int IntKind.i64 0)), AV.mp 2 0, AV.junk, AV.p (PV.ps l.length 8 (encL l)), AV.fn (Fn.func 59) [] [AV.mp 1 0], AV.junk, AV.junk, AV.junk, AV.junk, AV.junk, AV.junk], Blk.pc [PV.ps l.length 8 (encL l)], Blk.pc [PV.sc (Value.int IntKind.i64 n)]]))
theorem doue_tree (l : List Ins) (n : Int) (cells : List AV) : grow Tryz.prog env doueOrc 1000000 true (bodyCfg Tryz.prog env 59 0 ([AV.vy 0, AV.ms 3 0 0 2 Option.none]) ([recd l LoopState.ready Option.none, Blk.pc [PV.ps l.length 8 (encL l)], Blk.pc [sP n], Blk.ob (ObK.gr 111 true) cells]) 3 64) doueSc atEnd = doueTree l n cells := by kernel_rfl

/- dinn: 133 steps -/
noncomputable def dinnOrc (l : List Ins) (n : Int) (cells : List AV) (k : Nat) (xs : List Ins) (d : Int) (i : Nat) (op : Int) (r : Int) (a : Int) (b : Int) (nn : Int) (tg : List Int) (ll : List Ins) (le : List Ins) (ok : Bool) : Orc := orcS (dinnC l n cells k xs d i op r a b nn tg ll le ok) noLed [(59, 0), (59, 2)] [(59, 0, 3), (59, 0, 5), (59, 0, 6)] [(59, 7, 0), (59, 7, 1), (59, 10, 8), (59, 12, 8)] (dinnS l n cells k xs d i op r a b nn tg ll le ok)
def dinnSc : Sc := .fin
noncomputable def dinnTree (l : List Ins) (n : Int) (cells : List AV) (k : Nat) (xs : List Ins) (d : Int) (i : Nat) (op : Int) (r : Int) (a : Int) (b : Int) (nn : Int) (tg : List Int) (ll : List Ins) (le : List Ins) (_ok : Bool) : Tree :=
  (.test (decide ((↑i : Int) < (↑xs.length : Int)))
   (.must (inB (↑i : Int) xs.length && true && true)
    (.must (isInt IntKind.i64 ((encL xs).getD ((↑i : Int).toNat * 8) PV.bad) && (isInt IntKind.i64 ((encL xs).getD ((↑i : Int).toNat * 8 + 1) PV.bad) && (isInt IntKind.u32 ((encL xs).getD ((↑i : Int).toNat * 8 + 1 + 1) PV.bad) && (isInt IntKind.u32 ((encL xs).getD ((↑i : Int).toNat * 8 + 1 + 1 + 1) PV.bad) && (isInt IntKind.i32 ((encL xs).getD ((↑i : Int).toNat * 8 + 1 + 1 + 1 + 1) PV.bad) && (isPs ((encL xs).getD ((↑i : Int).toNat * 8 + 1 + 1 + 1 + 1 + 1) PV.bad) && (isPs ((encL xs).getD ((↑i : Int).toNat * 8 + 1 + 1 + 1 + 1 + 1 + 1) PV.bad) && (isPs ((encL xs).getD ((↑i : Int).toNat * 8 + 1 + 1 + 1 + 1 + 1 + 1 + 1) PV.bad) && true))))))) && true)
     (.need (AV.agg [AV.p (PV.sc (Value.int IntKind.i64 (pvInt ((encL xs).getD ((↑i : Int).toNat * 8) PV.bad)))), AV.p (PV.sc (Value.int IntKind.i64 (pvInt ((encL xs).getD ((↑i : Int).toNat * 8 + 1) PV.bad)))), AV.p (PV.sc (Value.int IntKind.u32 (pvInt ((encL xs).getD ((↑i : Int).toNat * 8 + 1 + 1) PV.bad)))), AV.p (PV.sc (Value.int IntKind.u32 (pvInt ((encL xs).getD ((↑i : Int).toNat * 8 + 1 + 1 + 1) PV.bad)))), AV.p (PV.sc (Value.int IntKind.i32 (pvInt ((encL xs).getD ((↑i : Int).toNat * 8 + 1 + 1 + 1 + 1) PV.bad)))), AV.p (PV.ps (psLen ((encL xs).getD ((↑i : Int).toNat * 8 + 1 + 1 + 1 + 1 + 1) PV.bad)) (psSz ((encL xs).getD ((↑i : Int).toNat * 8 + 1 + 1 + 1 + 1 + 1) PV.bad)) (psCells ((encL xs).getD ((↑i : Int).toNat * 8 + 1 + 1 + 1 + 1 + 1) PV.bad))), AV.p (PV.ps (psLen ((encL xs).getD ((↑i : Int).toNat * 8 + 1 + 1 + 1 + 1 + 1 + 1) PV.bad)) (psSz ((encL xs).getD ((↑i : Int).toNat * 8 + 1 + 1 + 1 + 1 + 1 + 1) PV.bad)) (psCells ((encL xs).getD ((↑i : Int).toNat * 8 + 1 + 1 + 1 + 1 + 1 + 1) PV.bad))), AV.p (PV.ps (psLen ((encL xs).getD ((↑i : Int).toNat * 8 + 1 + 1 + 1 + 1 + 1 + 1 + 1) PV.bad)) (psSz ((encL xs).getD ((↑i : Int).toNat * 8 + 1 + 1 + 1 + 1 + 1 + 1 + 1) PV.bad)) (psCells ((encL xs).getD ((↑i : Int).toNat * 8 + 1 + 1 + 1 + 1 + 1 + 1 + 1) PV.bad)))] = aggI op r a b nn tg ll le)
      (.test (decide ((↑ll.length : Int) > 0))
       (.need (AV.p (PV.sc (Value.int IntKind.i64 (IntKind.i64.wrap (d + 1)))) = sI IntKind.i64 (d + 1))
        (.must (((k + 1) * 32).ble lim && (k + 1).ble lim && ((k * 2).ble cells.length && true) && true)
         (.test (decide ((↑le.length : Int) > 0))
          (.need (AV.p (PV.sc (Value.int IntKind.i64 (IntKind.i64.wrap (d + 1)))) = sI IntKind.i64 (d + 1))
           (.must (((k + 1 + 1) * 32).ble lim && (k + 1 + 1).ble lim && (((k + 1) * 2).ble (List.take (k * 2) cells ++ [AV.p (PV.ps ll.length 8 (encL ll)), AV.p (PV.sc (Value.int IntKind.i64 (d + 1)))]).length && true) && true)
            (.need (AV.p (PV.sc (Value.int IntKind.i64 (IntKind.i64.wrap ((↑i : Int) + 1)))) = sI IntKind.i64 (↑(i + 1) : Int))
             (.at (bodyCfg Tryz.prog env 59 2 [AV.vy 0, AV.ms 3 0 (k + 1 + 1) 2 Option.none, AV.mp 4 0, AV.p (PV.ps xs.length 8 (encL xs)), AV.p (PV.sc (Value.int IntKind.i64 (↑xs.length : Int))), AV.p (PV.sc (Value.int IntKind.i64 (↑(i + 1) : Int)))] ([Blk.ob (loopK Tryz.prog 13 0 (endState Option.none) Option.none) [AV.p (PV.ps l.length 8 (encL l)), AV.junk, AV.p (PV.sc (Value.int IntKind.i64 0)), AV.mp 2 0, AV.junk, AV.p (PV.ps l.length 8 (encL l)), AV.fn (Fn.func 59) [] [AV.mp 1 0], AV.junk, AV.junk, AV.junk, AV.junk, AV.junk, AV.junk], Blk.pc [PV.ps l.length 8 (encL l)], Blk.pc [PV.sc (Value.int IntKind.i64 (bif false then Min.min n d else Max.max n d))], Blk.ob (ObK.gr 111 true) (List.map keepP (List.take ((k + 1) * 2) (List.take (k * 2) cells ++ [AV.p (PV.ps ll.length 8 (encL ll)), AV.p (PV.sc (Value.int IntKind.i64 (d + 1)))]) ++ [AV.p (PV.ps le.length 8 (encL le)), AV.p (PV.sc (Value.int IntKind.i64 (d + 1)))])), Blk.ac [AV.p (PV.ps xs.length 8 (encL xs)), AV.p (PV.sc (Value.int IntKind.i64 d))]]) 3 64)))))
          (.need (AV.p (PV.sc (Value.int IntKind.i64 (IntKind.i64.wrap ((↑i : Int) + 1)))) = sI IntKind.i64 (↑(i + 1) : Int))
           (.at (bodyCfg Tryz.prog env 59 2 [AV.vy 0, AV.ms 3 0 (k + 1) 2 Option.none, AV.mp 4 0, AV.p (PV.ps xs.length 8 (encL xs)), AV.p (PV.sc (Value.int IntKind.i64 (↑xs.length : Int))), AV.p (PV.sc (Value.int IntKind.i64 (↑(i + 1) : Int)))] ([Blk.ob (loopK Tryz.prog 13 0 (endState Option.none) Option.none) [AV.p (PV.ps l.length 8 (encL l)), AV.junk, AV.p (PV.sc (Value.int IntKind.i64 0)), AV.mp 2 0, AV.junk, AV.p (PV.ps l.length 8 (encL l)), AV.fn (Fn.func 59) [] [AV.mp 1 0], AV.junk, AV.junk, AV.junk, AV.junk, AV.junk, AV.junk], Blk.pc [PV.ps l.length 8 (encL l)], Blk.pc [PV.sc (Value.int IntKind.i64 (bif false then Min.min n d else Max.max n d))], Blk.ob (ObK.gr 111 true) (List.map keepP (List.take (k * 2) cells ++ [AV.p (PV.ps ll.length 8 (encL ll)), AV.p (PV.sc (Value.int IntKind.i64 (d + 1)))])), Blk.ac [AV.p (PV.ps xs.length 8 (encL xs)), AV.p (PV.sc (Value.int IntKind.i64 d))]]) 3 64))))))
       (.test (decide ((↑le.length : Int) > 0))
        (.need (AV.p (PV.sc (Value.int IntKind.i64 (IntKind.i64.wrap (d + 1)))) = sI IntKind.i64 (d + 1))
         (.must (((k + 1) * 32).ble lim && (k + 1).ble lim && ((k * 2).ble cells.length && true) && true)
          (.need (AV.p (PV.sc (Value.int IntKind.i64 (IntKind.i64.wrap ((↑i : Int) + 1)))) = sI IntKind.i64 (↑(i + 1) : Int))
           (.at (bodyCfg Tryz.prog env 59 2 [AV.vy 0, AV.ms 3 0 (k + 1) 2 Option.none, AV.mp 4 0, AV.p (PV.ps xs.length 8 (encL xs)), AV.p (PV.sc (Value.int IntKind.i64 (↑xs.length : Int))), AV.p (PV.sc (Value.int IntKind.i64 (↑(i + 1) : Int)))] ([Blk.ob (loopK Tryz.prog 13 0 (endState Option.none) Option.none) [AV.p (PV.ps l.length 8 (encL l)), AV.junk, AV.p (PV.sc (Value.int IntKind.i64 0)), AV.mp 2 0, AV.junk, AV.p (PV.ps l.length 8 (encL l)), AV.fn (Fn.func 59) [] [AV.mp 1 0], AV.junk, AV.junk, AV.junk, AV.junk, AV.junk, AV.junk], Blk.pc [PV.ps l.length 8 (encL l)], Blk.pc [PV.sc (Value.int IntKind.i64 (bif false then Min.min n d else Max.max n d))], Blk.ob (ObK.gr 111 true) (List.map keepP (List.take (k * 2) cells ++ [AV.p (PV.ps le.length 8 (encL le)), AV.p (PV.sc (Value.int IntKind.i64 (d + 1)))])), Blk.ac [AV.p (PV.ps xs.length 8 (encL xs)), AV.p (PV.sc (Value.int IntKind.i64 d))]]) 3 64)))))
        (.need (AV.p (PV.sc (Value.int IntKind.i64 (IntKind.i64.wrap ((↑i : Int) + 1)))) = sI IntKind.i64 (↑(i + 1) : Int))
         (.at (bodyCfg Tryz.prog env 59 2 [AV.vy 0, AV.ms 3 0 k 2 Option.none, AV.mp 4 0, AV.p (PV.ps xs.length 8 (encL xs)), AV.p (PV.sc (Value.int IntKind.i64 (↑xs.length : Int))), AV.p (PV.sc (Value.int IntKind.i64 (↑(i + 1) : Int)))] ([Blk.ob (loopK Tryz.prog 13 0 (endState Option.none) Option.none) [AV.p (PV.ps l.length 8 (encL l)), AV.junk, AV.p (PV.sc (Value.int IntKind.i64 0)), AV.mp 2 0, AV.junk, AV.p (PV.ps l.length 8 (encL l)), AV.fn (Fn.func 59) [] [AV.mp 1 0], AV.junk, AV.junk, AV.junk, AV.junk, AV.junk, AV.junk], Blk.pc [PV.ps l.length 8 (encL l)], Blk.pc [PV.sc (Value.int IntKind.i64 (bif false then Min.min n d else Max.max n d))], Blk.ob (ObK.gr 111 true) (List.map keepP cells), Blk.ac [AV.p (PV.ps xs.length 8 (encL xs)), AV.p (PV.sc (Value.int IntKind.i64 d))]]) 3 64))))))))
   (.at (bodyCfg Tryz.prog env 59 0 [AV.vy 0, AV.ms 3 0 k 2 Option.none] ([Blk.ob (loopK Tryz.prog 13 0 LoopState.ready Option.none) [AV.p (PV.ps l.length 8 (encL l)), AV.junk, AV.p (PV.sc (Value.int IntKind.i64 0)), AV.mp 2 0, AV.junk, AV.p (PV.ps l.length 8 (encL l)), AV.fn (Fn.func 59) [] [AV.mp 1 0], AV.junk, AV.junk, AV.junk, AV.junk, AV.junk, AV.junk], Blk.pc [PV.ps l.length 8 (encL l)], Blk.pc [PV.sc (Value.int IntKind.i64 n)], Blk.ob (ObK.gr 111 true) (List.map keepP cells)]) 3 64)))
theorem dinn_tree (l : List Ins) (n : Int) (cells : List AV) (k : Nat) (xs : List Ins) (d : Int) (i : Nat) (op : Int) (r : Int) (a : Int) (b : Int) (nn : Int) (tg : List Int) (ll : List Ins) (le : List Ins) (ok : Bool) : grow Tryz.prog env (dinnOrc l n cells k xs d i op r a b nn tg ll le ok) 1000000 true (bodyCfg Tryz.prog env 59 2 ([AV.vy 0, AV.ms 3 0 k 2 Option.none, AV.mp 4 0, aL xs, sI IntKind.i64 (↑xs.length : Int), sI IntKind.i64 (↑i : Int)]) (memd l n cells ++ [Blk.ac [aL xs, sI IntKind.i64 d]]) 3 64) dinnSc atEnd = dinnTree l n cells k xs d i op r a b nn tg ll le ok := by kernel_rfl


/-- How the memory is at the end. -/
noncomputable def find (l : List Ins) (n : Int) : Out := .ret (.tup []) [recd l .ready none, .pc [.ps l.length 8 (encL l)], .pc [sP n]]

section
variable (l : List Ins)

theorem d_inner (N : Nat) (ih : ∀ (st : InsS) (cells : List AV) (n : Nat), wS st < N → StkAt st cells → wS st ≤ bigN → (∀ e ∈ st, e.2 + numL e.1 ≤ bigN) →
      Am.Good Tryz.prog env (bodyCfg Tryz.prog env 59 0 [.vy 0, .ms 3 0 st.length 2 none] (memd l n cells) 3 64) (find l (max n (depS st) : Nat))) (xs : List Ins) (hxs : xs.length ≤ bigN) (d : Nat) :
    ∀ (r i : Nat) (st : InsS) (cells : List AV) (n : Nat), i + r = xs.length → wS st + 2 * numL (xs.drop i) < N → StkAt st cells → wS st + 2 * numL (xs.drop i) ≤ bigN → (∀ e ∈ st, e.2 + numL e.1 ≤ bigN) → d + numL (xs.drop i) ≤ bigN →
      Am.Good Tryz.prog env (bodyCfg Tryz.prog env 59 2 [.vy 0, .ms 3 0 st.length 2 none, .mp 4 0, aL xs, sI .i64 xs.length, sI .i64 i] (memd l n cells ++ [.ac [aL xs, sI .i64 d]]) 3 64) (find l (max n (depS (st ++ [(xs.drop i, d)])) : Nat)) := by
  intro r
  induction r with
  | zero =>
    intro i st cells n hi hN ht hw he hd
    have h1 : xs.drop i = [] := List.drop_eq_nil_of_le (by omega)
    rw [h1] at hN hw ⊢
    simp only [numL] at hN hw
    have ho := ih st (cells.map keepP) n (by omega) ht.keep (by omega) he
    refine good_of_tree names (dinn_tree l n cells st.length xs d i 0 0 0 0 0 [] [] [] true) ?_
    have h2 : ¬ ((i : Int) < xs.length) := by omega
    simp only [dinnTree, Tree.ok]
    refine ⟨fun h => absurd (by simpa using h) h2, fun _ => ?_⟩
    rw [show max n (depS (st ++ [([], d)])) = max n (depS st)  from by simp [depS_append, depL]]
    exact ho
  | succ r ihr =>
    intro i st cells n hi hN ht hw he hd
    have hkl : i < xs.length := by omega
    have hgx : xs[i]? = some xs[i] := List.getElem?_eq_getElem hkl
    have hdr : xs.drop i = xs[i] :: xs.drop (i + 1) := List.drop_eq_getElem_cons hkl
    rw [hdr] at hN hw hd ⊢
    generalize xs[i] = x at *
    generalize hys : xs.drop (i + 1) = ys at *
    obtain ⟨op, rs, a, b, nn, tg, ll, le⟩ := x
    obtain ⟨c0, c1, c2, c3, c4, c5, c6, c7⟩ := cells_at hgx
    have hbig : bigN = 1000000000000 := rfl
    have hlim : lim = 70368744177664 := rfl
    simp only [numL, numI] at hN hw hd
    have hsl := wS_length st
    have hcl := ht.len
    have w1 : IntKind.i64.wrap ((i : Int) + 1) = ((i + 1 : Nat) : Int) := by rw [i64In (by omega) (by omega)]; rfl
    have w2 : IntKind.i64.wrap ((d : Int) + 1) = ((d + 1 : Nat) : Int) := by rw [i64In (by omega) (by omega)]; rfl
    
    have hiI : (i : Int) < (xs.length : Int) := by omega
    have next : ∀ (s : InsS) (cs : List AV), StkAt (st ++ s) cs → wS s ≤ 2 * (numL ll + numL le) + 2 → numS s = numL ll + numL le → depS s = max (depL (d + 1) ll) (depL (d + 1) le) → (∀ e ∈ s, e.2 + numL e.1 ≤ bigN) →
        Am.Good Tryz.prog env (bodyCfg Tryz.prog env 59 2 [.vy 0, .ms 3 0 (st ++ s).length 2 none, .mp 4 0, aL xs, sI .i64 xs.length, sI .i64 (i + 1 : Nat)] (memd l (max n d : Nat) cs ++ [.ac [aL xs, sI .i64 d]]) 3 64) (find l (max n (depS (st ++ [(.mk op rs a b nn tg ll le :: ys, d)])) : Nat)) := by
      intro s cs hts hws hns hds hes
      have ho := ihr (i + 1) (st ++ s) cs (max n d) (by omega) (by rw [wS_append, hys]; omega) hts (by rw [wS_append, hys]; omega)
        (fun e hm => (List.mem_append.1 hm).elim (he e) (hes e)) (by rw [hys]; omega)
      rw [hys] at ho
      have e : max (max n d) (depS (st ++ s ++ [(ys, d)])) = max n (depS (st ++ [(.mk op rs a b nn tg ll le :: ys, d)])) := by
        simp only [depS_append, depS_one, hds, depL, depI]; omega
      exact e ▸ ho
    have tree := dinn_tree l n cells st.length xs d i op rs a b nn tg ll le true
    have mx : max (n : Int) (d : Int) = ((max n d : Nat) : Int) := by omega
    have nl : ∀ z : List Ins, z ≠ [] → 0 < (z.length : Int) := fun z hz => by have := List.length_pos_iff.2 hz; omega
    by_cases hll : ll = []
    · by_cases hle : le = []
      · subst hll; subst hle
        have ho := next [] (cells.map keepP) (by rw [List.append_nil]; exact ht.keep) (by simp [wS, numL]) (by simp [numS, numL]) (by simp [depS, depL]) (fun _ h => by cases h)
        refine good_of_tree names tree ?_
        simp only [dinnTree, Tree.ok, Int.toNat_natCast, Nat.add_assoc, Nat.reduceAdd, c0, c1, c2, c3, c4, c5, c6, c7, isInt, isPs, pvInt, psLen, psSz, psCells, inB, w1, w2, cond_false, mx]
        rw [List.append_nil] at ho
        exact ⟨fun _ => ⟨by simp [hiI], by simp, rfl, ⟨fun h => (by simp at h), fun _ => ⟨fun h => (by simp at h), fun _ => ⟨(by trivial), ho⟩⟩⟩⟩, fun h => absurd hiI (by simpa using h)⟩
      · subst hll
        have nle := nl le hle
        have ho := next [(le, d + 1)] _ (ht.push le (d + 1)).keep (by simp [numL]) (by simp [numL]) (by simp [depL]) (fun e h => by simp only [List.mem_singleton] at h; subst h; simp only; omega)
        refine good_of_tree names tree ?_
        simp only [dinnTree, Tree.ok, Int.toNat_natCast, Nat.add_assoc, Nat.reduceAdd, c0, c1, c2, c3, c4, c5, c6, c7, isInt, isPs, pvInt, psLen, psSz, psCells, inB, w1, w2, cond_false, mx]
        rw [List.length_append] at ho
        exact ⟨fun _ => ⟨by simp [hiI], by simp, rfl, ⟨fun h => (by simp at h), fun _ => ⟨fun _ => ⟨rfl, (by simp; omega), (by trivial), ho⟩, fun h => absurd nle (by simpa using h)⟩⟩⟩, fun h => absurd hiI (by simpa using h)⟩
    · have nll := nl ll hll
      by_cases hle : le = []
      · subst hle
        have ho := next [(ll, d + 1)] _ (ht.push ll (d + 1)).keep (by simp [numL]) (by simp [numL]) (by simp [depL]) (fun e h => by simp only [List.mem_singleton] at h; subst h; simp only; omega)
        refine good_of_tree names tree ?_
        simp only [dinnTree, Tree.ok, Int.toNat_natCast, Nat.add_assoc, Nat.reduceAdd, c0, c1, c2, c3, c4, c5, c6, c7, isInt, isPs, pvInt, psLen, psSz, psCells, inB, w1, w2, cond_false, mx]
        rw [List.length_append] at ho
        exact ⟨fun _ => ⟨by simp [hiI], by simp, rfl, ⟨fun _ => ⟨rfl, (by simp; omega), fun h => (by simp at h), fun _ => ⟨(by trivial), ho⟩⟩, fun h => absurd nll (by simpa using h)⟩⟩, fun h => absurd hiI (by simpa using h)⟩
      · have nle := nl le hle
        have hp2 := (ht.push ll (d + 1)).push le (d + 1)
        rw [List.append_assoc] at hp2
        have ho := next [(ll, d + 1), (le, d + 1)] _ hp2.keep (by simp [wS]; omega) (by simp [numS]) (by simp [depS]) (fun e h => by simp only [List.mem_cons, List.not_mem_nil, or_false] at h; rcases h with rfl | rfl <;> simp only <;> omega)
        refine good_of_tree names tree ?_
        simp only [dinnTree, Tree.ok, Int.toNat_natCast, Nat.add_assoc, Nat.reduceAdd, c0, c1, c2, c3, c4, c5, c6, c7, isInt, isPs, pvInt, psLen, psSz, psCells, inB, w1, w2, cond_false, mx]
        simp only [List.length_append, List.length_cons, List.length_nil, Nat.reduceAdd] at ho
        exact ⟨fun _ => ⟨by simp [hiI], by simp, rfl, ⟨fun _ => ⟨rfl, (by simp; omega), fun _ => ⟨rfl, (by simp; omega), (by trivial), ho⟩, fun h => absurd nle (by simpa using h)⟩, fun h => absurd nll (by simpa using h)⟩⟩, fun h => absurd hiI (by simpa using h)⟩

theorem d_outer : ∀ (N : Nat) (st : InsS) (cells : List AV) (n : Nat), wS st < N → StkAt st cells → wS st ≤ bigN → (∀ e ∈ st, e.2 + numL e.1 ≤ bigN) →
      Am.Good Tryz.prog env (bodyCfg Tryz.prog env 59 0 [.vy 0, .ms 3 0 st.length 2 none] (memd l n cells) 3 64) (find l (max n (depS st) : Nat))
  | 0, _, _, _, h, _, _, _ => by omega
  | N + 1, st, cells, n, hN, ht, hw, he => by
    rcases List.eq_nil_or_concat st with rfl | ⟨s, ⟨x, d⟩, rfl⟩
    · refine good_of_tree names (doue_tree l n cells) ?_
      have e : max n (depS ([] : InsS)) = n := by simp [depS]
      rw [e]; rfl
    · rw [List.concat_eq_append] at *
      have hx := he (x, d) (by simp)
      rw [wS_append, wS_one] at hN hw
      obtain ⟨t0, t1⟩ := ht.top
      have hcl := ht.len
      have hsl := wS_length s
      have hbig : bigN = 1000000000000 := rfl
      have hnx := numL_length x
      simp only [List.length_append, List.length_cons, List.length_nil] at hcl hx
      have ho := d_inner l N (fun st cells n => d_outer N st cells n) x (by omega) d x.length 0 s (cells.map keepP) n (by omega) (by rw [List.drop_zero]; omega) ht.pop.keep (by rw [List.drop_zero]; omega)
        (fun e hm => he e (List.mem_append_left _ hm)) (by rw [List.drop_zero]; omega)
      rw [List.drop_zero] at ho
      have w1 : IntKind.i64.wrap (((s.length + 1 : Nat) : Int) - 1) = (s.length : Int) := by rw [i64In (by omega) (by omega)]; omega
      rw [List.length_append, List.length_singleton]
      refine good_of_tree names (dout_tree l n cells s.length x d) ?_
      simp only [doutTree, Tree.ok, Int.toNat_natCast, Nat.zero_add, t0, t1, normA, normP, w1, isInt, isPs, pvInt, psLen, psSz, psCells, inB, Nat.sub_zero]
      exact ⟨fun _ => ⟨(by trivial), (by simp; omega), (by simp; omega), (by trivial), (by trivial), (by simp), ho⟩, fun h => absurd h (by simp)⟩
end
end Go.Proofs.YtgbphddecpjlhaaGreatDoor.N
end

section
namespace Go.Proofs.YtgbphddecpjlhaaGreatDoor.N
open Go Go.Am

noncomputable def chkG (l : List Ins) (tags n most : Int) (f : FuncId) (_ : List AV) (_ : Mem) : Option (AV × Mem) := cond (Nat.beq f 59) (some (.tup [], [recC l .ready none, .pc [.ps l.length 8 (encL l)], .pc [sP 0], .pc [sP tags], .pc [sP n], .pc [sP most]])) none
noncomputable def chkB (l : List Ins) (tags n most : Int) (f : FuncId) (_ : List AV) (_ : Mem) : Option (AV × Mem) := cond (Nat.beq f 59) (some (.tup [], [recC l .done (some .ret), .pc [.ps l.length 8 (encL l)], .pc [sP 2], .pc [sP tags], .pc [sP n], .pc [sP most]])) none
noncomputable def depG (l : List Ins) (n : Int) (f : FuncId) (_ : List AV) (_ : Mem) : Option (AV × Mem) := cond (Nat.beq f 59) (some (.tup [], [recd l .ready none, .pc [.ps l.length 8 (encL l)], .pc [sP n]])) none
/- alC: 9 steps -/
noncomputable def alCOrc : Orc := orcL noCall noLed [(59, 0)] [] []
def alCSc : Sc := .fin
noncomputable def alCTree (l : List Ins) : Tree :=
  (.at (bodyCfg Tryz.prog env 59 0 [AV.vy 0, AV.ms 6 0 1 2 Option.none] ([Blk.ob (loopK Tryz.prog 95 0 LoopState.ready Option.none) [AV.p (PV.ps l.length 8 (encL l)), AV.junk, AV.mp 2 0, AV.p (PV.sc (Value.bool false)), AV.mp 3 0, AV.mp 4 0, AV.mp 5 0, AV.junk, AV.junk, AV.p (PV.ps l.length 8 (encL l)), AV.fn (Fn.func 59) [] [AV.mp 1 0], AV.junk, AV.junk, AV.junk, AV.junk, AV.junk, AV.junk, AV.junk, AV.junk, AV.junk, AV.junk, AV.junk, AV.junk, AV.junk, AV.junk, AV.junk, AV.junk, AV.junk, AV.junk, AV.junk, AV.junk, AV.junk, AV.junk, AV.junk, AV.junk, AV.junk, AV.junk], Blk.pc [PV.ps l.length 8 (encL l)], Blk.pc [PV.sc (Value.int IntKind.i64 0)], Blk.pc [PV.sc (Value.int IntKind.i64 0)], Blk.pc [PV.sc (Value.int IntKind.i64 0)], Blk.pc [PV.sc (Value.int IntKind.i64 0)], Blk.ob (ObK.gr 111 true) [AV.p (PV.ps l.length 8 (encL l)), AV.p (PV.sc (Value.int IntKind.i64 1))]]) 6 64))
theorem alC_tree (l : List Ins) : growF Tryz.prog env alCOrc 1000000 59 ([AV.vy 0, AV.mp 1 0]) ([recC l LoopState.ready Option.none, Blk.pc [PV.ps l.length 8 (encL l)], Blk.pc [sP 0], Blk.pc [sP 0], Blk.pc [sP 0], Blk.pc [sP 0]]) alCSc = alCTree l := by kernel_rfl

/- ald: 9 steps -/
noncomputable def aldOrc : Orc := orcL noCall noLed [(59, 0)] [] []
def aldSc : Sc := .fin
noncomputable def aldTree (l : List Ins) : Tree :=
  (.at (bodyCfg Tryz.prog env 59 0 [AV.vy 0, AV.ms 3 0 1 2 Option.none] ([Blk.ob (loopK Tryz.prog 13 0 LoopState.ready Option.none) [AV.p (PV.ps l.length 8 (encL l)), AV.junk, AV.p (PV.sc (Value.int IntKind.i64 0)), AV.mp 2 0, AV.junk, AV.p (PV.ps l.length 8 (encL l)), AV.fn (Fn.func 59) [] [AV.mp 1 0], AV.junk, AV.junk, AV.junk, AV.junk, AV.junk, AV.junk], Blk.pc [PV.ps l.length 8 (encL l)], Blk.pc [PV.sc (Value.int IntKind.i64 0)], Blk.ob (ObK.gr 111 true) [AV.p (PV.ps l.length 8 (encL l)), AV.p (PV.sc (Value.int IntKind.i64 1))]]) 3 64))
theorem ald_tree (l : List Ins) : growF Tryz.prog env aldOrc 1000000 59 ([AV.vy 0, AV.mp 1 0]) ([recd l LoopState.ready Option.none, Blk.pc [PV.ps l.length 8 (encL l)], Blk.pc [sP 0]]) aldSc = aldTree l := by kernel_rfl

/- chkG: 114 steps -/
noncomputable def chkGOrc (l : List Ins) (tags : Int) (n : Int) (most : Int) : Orc := orcL (chkG l tags n most) noLed [] [(95, 10, 3), (95, 10, 7), (95, 0, 0)] []
def chkGSc : Sc := (.fork (.lit (.lit .fin)) (.fork (.lit .fin) .fin))
noncomputable def chkGTree (l : List Ins) (tags : Int) (n : Int) (most : Int) : Tree :=
  (.call ⟨59, [AV.vy 0, AV.mp 1 0], [Blk.ob (loopK Tryz.prog 95 0 LoopState.ready Option.none) [AV.p (PV.ps l.length 8 (encL l)), AV.junk, AV.mp 2 0, AV.p (PV.sc (Value.bool false)), AV.mp 3 0, AV.mp 4 0, AV.mp 5 0, AV.junk, AV.junk, AV.p (PV.ps l.length 8 (encL l)), AV.fn (Fn.func 59) [] [AV.mp 1 0], AV.junk, AV.junk, AV.junk, AV.junk, AV.junk, AV.junk, AV.junk, AV.junk, AV.junk, AV.junk, AV.junk, AV.junk, AV.junk, AV.junk, AV.junk, AV.junk, AV.junk, AV.junk, AV.junk, AV.junk, AV.junk, AV.junk, AV.junk, AV.junk, AV.junk, AV.junk], Blk.pc [PV.ps l.length 8 (encL l)], Blk.pc [PV.sc (Value.int IntKind.i64 0)], Blk.pc [PV.sc (Value.int IntKind.i64 0)], Blk.pc [PV.sc (Value.int IntKind.i64 0)], Blk.pc [PV.sc (Value.int IntKind.i64 0)]], AV.tup [], [Blk.ob (loopK Tryz.prog 95 0 LoopState.ready Option.none) [AV.p (PV.ps l.length 8 (encL l)), AV.junk, AV.mp 2 0, AV.p (PV.sc (Value.bool false)), AV.mp 3 0, AV.mp 4 0, AV.mp 5 0, AV.junk, AV.junk, AV.p (PV.ps l.length 8 (encL l)), AV.fn (Fn.func 59) [] [AV.mp 1 0], AV.junk, AV.junk, AV.junk, AV.junk, AV.junk, AV.junk, AV.junk, AV.junk, AV.junk, AV.junk, AV.junk, AV.junk, AV.junk, AV.junk, AV.junk, AV.junk, AV.junk, AV.junk, AV.junk, AV.junk, AV.junk, AV.junk, AV.junk, AV.junk, AV.junk, AV.junk], Blk.pc [PV.ps l.length 8 (encL l)], Blk.pc [PV.sc (Value.int IntKind.i64 0)], Blk.pc [PV.sc (Value.int IntKind.i64 tags)], Blk.pc [PV.sc (Value.int IntKind.i64 n)], Blk.pc [PV.sc (Value.int IntKind.i64 most)]]⟩
   (.test (decide (n > 262144))
    (.out (Out.ret (AV.p (PV.sc (Value.int IntKind.i64 141))) []))
    (.test (decide (tags > 16384))
     (.out (Out.ret (AV.p (PV.sc (Value.int IntKind.i64 141))) []))
     (.test (decide (most > 900))
      (.out (Out.ret (AV.p (PV.sc (Value.int IntKind.i64 141))) []))
      (.out (Out.ret (AV.p (PV.sc (Value.int IntKind.i64 0))) []))))))
theorem chkG_tree (l : List Ins) (tags : Int) (n : Int) (most : Int) : growF Tryz.prog env (chkGOrc l tags n most) 1000000 95 ([aL l]) ([]) chkGSc = chkGTree l tags n most := by kernel_rfl

/- chkB: 36 steps -/
noncomputable def chkBOrc (l : List Ins) (tags : Int) (n : Int) (most : Int) : Orc := orcL (chkB l tags n most) noLed [] [] []
def chkBSc : Sc := .fin
noncomputable def chkBTree (l : List Ins) (tags : Int) (n : Int) (most : Int) : Tree :=
  (.call ⟨59, [AV.vy 0, AV.mp 1 0], [Blk.ob (loopK Tryz.prog 95 0 LoopState.ready Option.none) [AV.p (PV.ps l.length 8 (encL l)), AV.junk, AV.mp 2 0, AV.p (PV.sc (Value.bool false)), AV.mp 3 0, AV.mp 4 0, AV.mp 5 0, AV.junk, AV.junk, AV.p (PV.ps l.length 8 (encL l)), AV.fn (Fn.func 59) [] [AV.mp 1 0], AV.junk, AV.junk, AV.junk, AV.junk, AV.junk, AV.junk, AV.junk, AV.junk, AV.junk, AV.junk, AV.junk, AV.junk, AV.junk, AV.junk, AV.junk, AV.junk, AV.junk, AV.junk, AV.junk, AV.junk, AV.junk, AV.junk, AV.junk, AV.junk, AV.junk, AV.junk], Blk.pc [PV.ps l.length 8 (encL l)], Blk.pc [PV.sc (Value.int IntKind.i64 0)], Blk.pc [PV.sc (Value.int IntKind.i64 0)], Blk.pc [PV.sc (Value.int IntKind.i64 0)], Blk.pc [PV.sc (Value.int IntKind.i64 0)]], AV.tup [], [Blk.ob (loopK Tryz.prog 95 0 LoopState.done (Option.some Code.ret)) [AV.p (PV.ps l.length 8 (encL l)), AV.junk, AV.mp 2 0, AV.p (PV.sc (Value.bool false)), AV.mp 3 0, AV.mp 4 0, AV.mp 5 0, AV.junk, AV.junk, AV.p (PV.ps l.length 8 (encL l)), AV.fn (Fn.func 59) [] [AV.mp 1 0], AV.junk, AV.junk, AV.junk, AV.junk, AV.junk, AV.junk, AV.junk, AV.junk, AV.junk, AV.junk, AV.junk, AV.junk, AV.junk, AV.junk, AV.junk, AV.junk, AV.junk, AV.junk, AV.junk, AV.junk, AV.junk, AV.junk, AV.junk, AV.junk, AV.junk, AV.junk], Blk.pc [PV.ps l.length 8 (encL l)], Blk.pc [PV.sc (Value.int IntKind.i64 2)], Blk.pc [PV.sc (Value.int IntKind.i64 tags)], Blk.pc [PV.sc (Value.int IntKind.i64 n)], Blk.pc [PV.sc (Value.int IntKind.i64 most)]]⟩
   (.out (Out.ret (AV.p (PV.sc (Value.int IntKind.i64 2))) [])))
theorem chkB_tree (l : List Ins) (tags : Int) (n : Int) (most : Int) : growF Tryz.prog env (chkBOrc l tags n most) 1000000 95 ([aL l]) ([]) chkBSc = chkBTree l tags n most := by kernel_rfl

/- depT: 37 steps -/
noncomputable def depTOrc (l : List Ins) (n : Int) : Orc := orcL (depG l n) noLed [] [] []
def depTSc : Sc := .fin
noncomputable def depTTree (l : List Ins) (n : Int) : Tree :=
  (.call ⟨59, [AV.vy 0, AV.mp 1 0], [Blk.ob (loopK Tryz.prog 13 0 LoopState.ready Option.none) [AV.p (PV.ps l.length 8 (encL l)), AV.junk, AV.p (PV.sc (Value.int IntKind.i64 0)), AV.mp 2 0, AV.junk, AV.p (PV.ps l.length 8 (encL l)), AV.fn (Fn.func 59) [] [AV.mp 1 0], AV.junk, AV.junk, AV.junk, AV.junk, AV.junk, AV.junk], Blk.pc [PV.ps l.length 8 (encL l)], Blk.pc [PV.sc (Value.int IntKind.i64 0)]], AV.tup [], [Blk.ob (loopK Tryz.prog 13 0 LoopState.ready Option.none) [AV.p (PV.ps l.length 8 (encL l)), AV.junk, AV.p (PV.sc (Value.int IntKind.i64 0)), AV.mp 2 0, AV.junk, AV.p (PV.ps l.length 8 (encL l)), AV.fn (Fn.func 59) [] [AV.mp 1 0], AV.junk, AV.junk, AV.junk, AV.junk, AV.junk, AV.junk], Blk.pc [PV.ps l.length 8 (encL l)], Blk.pc [PV.sc (Value.int IntKind.i64 n)]]⟩
   (.out (Out.ret (AV.p (PV.sc (Value.int IntKind.i64 n))) [])))
theorem depT_tree (l : List Ins) (n : Int) : growF Tryz.prog env (depTOrc l n) 1000000 13 ([aL l]) ([]) depTSc = depTTree l n := by kernel_rfl


theorem stk_one (l : List Ins) : StkAt [(l, 1)] [.p (.ps l.length 8 (encL l)), .p (.sc (.int .i64 1))] := rfl

/-- What a check tells, where each instruction may be as 'p' says. -/
def checkF (p : Ins → Bool) (l : List Ins) : Int := if okL p l = false then 2 else if 262144 < numL l ∨ 16384 < tagL l ∨ 900 < depL 1 l then 141 else 0

theorem check_does {p : Ins → Bool} (hp : ∀ x : Ins, Does Tryz.prog env 126 [aggX x] [] (sB (p x)) []) (l : List Ins) (h : numL l ≤ 100000000000) : Does Tryz.prog env 95 [aL l] [] (sI .i64 (checkF p l)) [] := by
  have hbig : bigN = 1000000000000 := rfl
  obtain ⟨o, ho, hq⟩ := chk_outer p hp l (2 * numL l + 2) [(l, 1)] _ 0 0 0 (by simp) (stk_one l) (by simp; omega) (by simp; omega) (fun e he => by simp only [List.mem_singleton] at he; subst he; simp only; omega)
  rcases hq with ⟨q1, rfl⟩ | ⟨q1, t, k, m, rfl⟩
  · have hd : Does Tryz.prog env 59 [.vy 0, .mp 1 0] _ (.tup []) _ := does_of_tree names (alC_tree l) ho
    refine does_of_tree names (chkG_tree l _ _ _) ⟨hd, ?_⟩
    rw [okS_one] at q1
    simp only [tagS_one, numS_one, depS_one, Nat.zero_add, Nat.zero_max]
    have z : ∀ a b : Nat, decide ((a : Int) > (b : Int)) = decide (b < a) := fun a b => by congr 1; exact propext (by omega)
    unfold checkF
    rw [if_neg (by rw [q1]; simp)]
    refine ⟨fun h1 => ?_, fun h1 => ⟨fun h2 => ?_, fun h2 => ⟨fun h3 => ?_, fun h3 => ?_⟩⟩⟩ <;> simp only [decide_eq_true_eq, decide_eq_false_iff_not] at *
    · rw [if_pos (by omega)]; rfl
    · rw [if_pos (by omega)]; rfl
    · rw [if_pos (by omega)]; rfl
    · rw [if_neg (by omega)]; rfl
  · have hd : Does Tryz.prog env 59 [.vy 0, .mp 1 0] _ (.tup []) _ := does_of_tree names (alC_tree l) ho
    refine does_of_tree names (chkB_tree l t k m) ⟨hd, ?_⟩
    rw [okS_one] at q1
    unfold checkF
    rw [if_pos q1]; rfl

theorem deep_does (l : List Ins) (h : numL l ≤ 100000000000) : Does Tryz.prog env 13 [aL l] [] (sI .i64 (depL 1 l)) [] := by
  have hbig : bigN = 1000000000000 := rfl
  have ho := d_outer l (2 * numL l + 2) [(l, 1)] _ 0 (by simp) (stk_one l) (by simp; omega) (fun e he => by simp only [List.mem_singleton] at he; subst he; simp only; omega)
  simp only [depS_one, Nat.zero_max] at ho
  have hd : Does Tryz.prog env 59 [.vy 0, .mp 1 0] _ (.tup []) _ := does_of_tree names (ald_tree l) ho
  exact does_of_tree names (depT_tree l _) ⟨hd, rfl⟩

end Go.Proofs.YtgbphddecpjlhaaGreatDoor.N
end
