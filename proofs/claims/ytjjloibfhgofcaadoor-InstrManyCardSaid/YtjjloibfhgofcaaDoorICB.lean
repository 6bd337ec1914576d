/-
  instr.Check: the going through of instructions, by its trees (printed by a program of mine): the outer loop, its end, the inner loop.
-/
import Derived.Test.YtjjloibfhgofcaaDoorICA
import Derived.Test.YtjjloibfhgofcaaDoorInsC
namespace Go.Proofs.YtjjloibfhgofcaaDoor.N
open Go Go.Am

def noCall (_ : FuncId) (_ : List AV) (_ : Mem) : Option (AV × Mem) := none
abbrev sP (n : Int) : PV := .sc (.int .i64 n)
noncomputable def recC (l : List Ins) (st : LoopState) (pd : Option Code) : Blk := .ob (loopK Tryd.prog 12 0 st pd) [aL l, .junk, .mp 2 0, .p (.sc (.bool false)), .mp 3 0, .mp 4 0, .mp 5 0, .junk, .junk, aL l, .fn (.func 62) [] [.mp 1 0], .junk, .junk, .junk, .junk, .junk, .junk, .junk, .junk, .junk, .junk, .junk, .junk, .junk, .junk, .junk, .junk, .junk, .junk, .junk, .junk, .junk, .junk, .junk, .junk, .junk, .junk]
noncomputable def memC (l : List Ins) (tags n most : Int) (cells : List AV) : Mem := [recC l .ready none, .pc [.ps l.length 8 (encL l)], .pc [sP 0], .pc [sP tags], .pc [sP n], .pc [sP most], .ob (.gr 116 true) cells]
def outS (_l : List Ins) (_tags _n _most : Int) (_cells : List AV) (k : Nat) (x : List Ins) (d : Int) : FuncId → Nat → Nat → Option (AV → AV) := shapeAt [(62, 3, 3, sI .i64 k), (62, 3, 5, .agg [aL x, sI .i64 d]), (62, 4, 3, sI .i64 k)]
def innS (_l : List Ins) (_tags n _most : Int) (_cells : List AV) (_k : Nat) (_xs : List Ins) (d : Int) (i : Nat) (op r a b nn : Int) (tg : List Int) (ll le : List Ins) (_ok : Bool) : FuncId → Nat → Nat → Option (AV → AV) := shapeAt [(62, 7, 1, aggI op r a b nn tg ll le), (62, 13, 0, sI .i64 ((i + 1 : Nat) : Int)), (62, 10, 5, sI .i64 (d + 1)), (62, 12, 5, sI .i64 (d + 1)), (12, 8, 1, sI .i64 (n + 1))]
def innC (_l : List Ins) (_tags _n _most : Int) (_cells : List AV) (_k : Nat) (_xs : List Ins) (_d : Int) (_i : Nat) (_op _r _a _b _nn : Int) (_tg : List Int) (_ll _le : List Ins) (ok : Bool) (f : FuncId) (_ : List AV) (m : Mem) : Option (AV × Mem) := cond (Nat.beq f 26) (some (sB ok, m)) none
/- out: 42 steps -/
def outOrc (l : List Ins) (tags : Int) (n : Int) (most : Int) (cells : List AV) (k : Nat) (x : List Ins) (d : Int) : Orc := orcS noCall noLed [(62, 0), (62, 2)] [(62, 0, 1)] [(62, 3, 4), (62, 3, 5), (62, 4, 4)] (outS l tags n most cells k x d)
def outSc : Sc := .fin
noncomputable def outTree (l : List Ins) (tags : Int) (n : Int) (most : Int) (cells : List AV) (k : Nat) (x : List Ins) (d : Int) : Tree :=
  (.test (decide ((↑(k + 1) : Int) > 0))
   (.need (AV.p (PV.sc (Value.int IntKind.i64 (IntKind.i64.wrap ((↑(k + 1) : Int) - 1)))) = sI IntKind.i64 (↑k : Int))
    (.must (inB (↑k : Int) (k + 1) && true && true)
     (.must ((0 + (↑k : Int).toNat * 2 + 2).ble cells.length && ((normA (Option.some (TypeInfo.mk (TypeDesc.slice 50) "[]api.Instr" 1 24 true 8 8 (Option.some (Value.slice Option.none 0 0)) false #[]).desc) (cells.getD (0 + (↑k : Int).toNat * 2) AV.junk)).snd && ((normA (Option.some (TypeInfo.mk (TypeDesc.int IntKind.i64) "int" 1 8 false 8 8 (Option.some (Value.int IntKind.i64 0)) true #[]).desc) (cells.getD (0 + (↑k : Int).toNat * 2 + 1) AV.junk)).snd && true)) && true)
      (.need (AV.agg [(normA (Option.some (TypeInfo.mk (TypeDesc.slice 50) "[]api.Instr" 1 24 true 8 8 (Option.some (Value.slice Option.none 0 0)) false #[]).desc) (cells.getD (0 + (↑k : Int).toNat * 2) AV.junk)).fst, (normA (Option.some (TypeInfo.mk (TypeDesc.int IntKind.i64) "int" 1 8 false 8 8 (Option.some (Value.int IntKind.i64 0)) true #[]).desc) (cells.getD (0 + (↑k : Int).toNat * 2 + 1) AV.junk)).fst] = AV.agg [aL x, sI IntKind.i64 d])
       (.need (AV.p (PV.sc (Value.int IntKind.i64 (IntKind.i64.wrap ((↑(k + 1) : Int) - 1)))) = sI IntKind.i64 (↑k : Int))
        (.must ((↑k : Int).toNat.ble (k + 1) && true && true && true)
         (.at (bodyCfg Tryd.prog env 62 2 [AV.vy 0, AV.ms 6 0 ((↑k : Int).toNat - 0) 2 Option.none, AV.mp 7 0, AV.p (PV.ps x.length 8 (encL x)), AV.p (PV.sc (Value.int IntKind.i64 (↑x.length : Int))), AV.p (PV.sc (Value.int IntKind.i64 0))] ([Blk.ob (loopK Tryd.prog 12 0 LoopState.ready Option.none) [AV.p (PV.ps l.length 8 (encL l)), AV.junk, AV.mp 2 0, AV.p (PV.sc (Value.bool false)), AV.mp 3 0, AV.mp 4 0, AV.mp 5 0, AV.junk, AV.junk, AV.p (PV.ps l.length 8 (encL l)), AV.fn (Fn.func 62) [] [AV.mp 1 0], AV.junk, AV.junk, AV.junk, AV.junk, AV.junk, AV.junk, AV.junk, AV.junk, AV.junk, AV.junk, AV.junk, AV.junk, AV.junk, AV.junk, AV.junk, AV.junk, AV.junk, AV.junk, AV.junk, AV.junk, AV.junk, AV.junk, AV.junk, AV.junk, AV.junk, AV.junk], Blk.pc [PV.ps l.length 8 (encL l)], Blk.pc [PV.sc (Value.int IntKind.i64 0)], Blk.pc [PV.sc (Value.int IntKind.i64 tags)], Blk.pc [PV.sc (Value.int IntKind.i64 n)], Blk.pc [PV.sc (Value.int IntKind.i64 most)], Blk.ob (ObK.gr 116 true) (List.map keepP cells), Blk.ac [AV.p (PV.ps x.length 8 (encL x)), AV.p (PV.sc (Value.int IntKind.i64 d))]]) 6 64))))))))
   (.out (Out.ret (AV.tup []) [Blk.ob (loopK Tryd.prog 12 0 LoopState.ready Option.none) [AV.p (PV.ps l.length 8 (encL l)), AV.junk, AV.mp 2 0, AV.p (PV.sc (Value.bool false)), AV.mp 3 0, AV.mp 4 0, AV.mp 5 0, AV.junk, AV.junk, AV.p (PV.ps l.length 8 (encL l)), AV.fn (Fn.func 62) [] [AV.mp 1 0], AV.junk, AV.junk, AV.junk, AV.junk, AV.junk, AV.junk, AV.junk, AV.junk, AV.junk, AV.junk, AV.junk, AV.junk, AV.junk, AV.junk, AV.junk, AV.junk, AV.junk, AV.junk, AV.junk, AV.junk, AV.junk, AV.junk, AV.junk, AV.junk, AV.junk, AV.junk], Blk.pc [PV.ps l.length 8 (encL l)], Blk.pc [PV.sc (Value.int IntKind.i64 0)], Blk.pc [PV.sc (Value.int IntKind.i64 tags)], Blk.pc [PV.sc (Value.int IntKind.i64 n)], Blk.pc [PV.sc (Value.int IntKind.i64 most)]])))
theorem out_tree (l : List Ins) (tags : Int) (n : Int) (most : Int) (cells : List AV) (k : Nat) (x : List Ins) (d : Int) : grow Tryd.prog env (outOrc l tags n most cells k x d) 1000000 true (bodyCfg Tryd.prog env 62 0 ([AV.vy 0, AV.ms 6 0 (k + 1) 2 Option.none]) (memC l tags n most cells) 6 64) outSc atEnd = outTree l tags n most cells k x d := by kernel_rfl

/- oue: 11 steps -/
def oueOrc : Orc := orcL noCall noLed [(62, 0), (62, 2)] [] []
def oueSc : Sc := .fin
noncomputable def oueTree (l : List Ins) (tags : Int) (n : Int) (most : Int) (_cells : List AV) : Tree :=
  (.out (Out.ret (AV.tup []) [Blk.ob (loopK Tryd.prog 12 0 LoopState.ready Option.none) [AV.p (PV.ps l.length 8 (encL l)), AV.junk, AV.mp 2 0, AV.p (PV.sc (Value.bool false)), AV.mp 3 0, AV.mp 4 0, AV.mp 5 0, AV.junk, AV.junk, AV.p (PV.ps l.length 8 (encL l)), AV.fn (Fn.func 62) [] [AV.mp 1 0], AV.junk, AV.junk, AV.junk, AV.junk, AV.junk, AV.junk, AV.junk, AV.junk, AV.junk, AV.junk, AV.junk, AV.junk, AV.junk, AV.junk, AV.junk, AV.junk, AV.junk, AV.junk, AV.junk, AV.junk, AV.junk, AV.junk, AV.junk, AV.junk, AV.junk, AV.junk], Blk.pc [PV.ps l.length 8 (encL l)], Blk.pc [PV.sc (Value.int IntKind.i64 0)], Blk.pc [PV.sc (Value.int IntKind.i64 tags)], Blk.pc [PV.sc (Value.int IntKind.i64 n)], Blk.pc [PV.sc (Value.int IntKind.i64 most)]]))
theorem oue_tree (l : List Ins) (tags : Int) (n : Int) (most : Int) (cells : List AV) : grow Tryd.prog env oueOrc 1000000 true (bodyCfg Tryd.prog env 62 0 ([AV.vy 0, AV.ms 6 0 0 2 Option.none]) ([recC l LoopState.ready Option.none, Blk.pc [PV.ps l.length 8 (encL l)], Blk.pc [sP 0], Blk.pc [sP tags], Blk.pc [sP n], Blk.pc [sP most], Blk.ob (ObK.gr 116 true) cells]) 6 64) oueSc atEnd = oueTree l tags n most cells := by kernel_rfl

/- inn: 159 steps -/
def innOrc (l : List Ins) (tags : Int) (n : Int) (most : Int) (cells : List AV) (k : Nat) (xs : List Ins) (d : Int) (i : Nat) (op : Int) (r : Int) (a : Int) (b : Int) (nn : Int) (tg : List Int) (ll : List Ins) (le : List Ins) (ok : Bool) : Orc := orcS (innC l tags n most cells k xs d i op r a b nn tg ll le ok) noLed [(62, 0), (62, 2)] [(62, 0, 3), (12, 0, 0), (62, 0, 5), (62, 0, 6)] [(62, 7, 0), (62, 7, 1), (62, 10, 8), (62, 12, 8)] (innS l tags n most cells k xs d i op r a b nn tg ll le ok)
def innSc : Sc := .fin
noncomputable def innTree (l : List Ins) (tags : Int) (n : Int) (most : Int) (cells : List AV) (k : Nat) (xs : List Ins) (d : Int) (i : Nat) (op : Int) (r : Int) (a : Int) (b : Int) (nn : Int) (tg : List Int) (ll : List Ins) (le : List Ins) (ok : Bool) : Tree :=
  (.test (decide ((↑i : Int) < (↑xs.length : Int)))
   (.must (inB (↑i : Int) xs.length && true && true)
    (.must (isInt IntKind.i64 ((encL xs).getD ((↑i : Int).toNat * 8) PV.bad) && (isInt IntKind.i64 ((encL xs).getD ((↑i : Int).toNat * 8 + 1) PV.bad) && (isInt IntKind.u32 ((encL xs).getD ((↑i : Int).toNat * 8 + 1 + 1) PV.bad) && (isInt IntKind.u32 ((encL xs).getD ((↑i : Int).toNat * 8 + 1 + 1 + 1) PV.bad) && (isInt IntKind.i32 ((encL xs).getD ((↑i : Int).toNat * 8 + 1 + 1 + 1 + 1) PV.bad) && (isPs ((encL xs).getD ((↑i : Int).toNat * 8 + 1 + 1 + 1 + 1 + 1) PV.bad) && (isPs ((encL xs).getD ((↑i : Int).toNat * 8 + 1 + 1 + 1 + 1 + 1 + 1) PV.bad) && (isPs ((encL xs).getD ((↑i : Int).toNat * 8 + 1 + 1 + 1 + 1 + 1 + 1 + 1) PV.bad) && true))))))) && true)
     (.need (AV.agg [AV.p (PV.sc (Value.int IntKind.i64 (pvInt ((encL xs).getD ((↑i : Int).toNat * 8) PV.bad)))), AV.p (PV.sc (Value.int IntKind.i64 (pvInt ((encL xs).getD ((↑i : Int).toNat * 8 + 1) PV.bad)))), AV.p (PV.sc (Value.int IntKind.u32 (pvInt ((encL xs).getD ((↑i : Int).toNat * 8 + 1 + 1) PV.bad)))), AV.p (PV.sc (Value.int IntKind.u32 (pvInt ((encL xs).getD ((↑i : Int).toNat * 8 + 1 + 1 + 1) PV.bad)))), AV.p (PV.sc (Value.int IntKind.i32 (pvInt ((encL xs).getD ((↑i : Int).toNat * 8 + 1 + 1 + 1 + 1) PV.bad)))), AV.p (PV.ps (psLen ((encL xs).getD ((↑i : Int).toNat * 8 + 1 + 1 + 1 + 1 + 1) PV.bad)) (psSz ((encL xs).getD ((↑i : Int).toNat * 8 + 1 + 1 + 1 + 1 + 1) PV.bad)) (psCells ((encL xs).getD ((↑i : Int).toNat * 8 + 1 + 1 + 1 + 1 + 1) PV.bad))), AV.p (PV.ps (psLen ((encL xs).getD ((↑i : Int).toNat * 8 + 1 + 1 + 1 + 1 + 1 + 1) PV.bad)) (psSz ((encL xs).getD ((↑i : Int).toNat * 8 + 1 + 1 + 1 + 1 + 1 + 1) PV.bad)) (psCells ((encL xs).getD ((↑i : Int).toNat * 8 + 1 + 1 + 1 + 1 + 1 + 1) PV.bad))), AV.p (PV.ps (psLen ((encL xs).getD ((↑i : Int).toNat * 8 + 1 + 1 + 1 + 1 + 1 + 1 + 1) PV.bad)) (psSz ((encL xs).getD ((↑i : Int).toNat * 8 + 1 + 1 + 1 + 1 + 1 + 1 + 1) PV.bad)) (psCells ((encL xs).getD ((↑i : Int).toNat * 8 + 1 + 1 + 1 + 1 + 1 + 1 + 1) PV.bad)))] = aggI op r a b nn tg ll le)
      (.call ⟨26, [AV.agg [AV.p (PV.sc (Value.int IntKind.i64 op)), AV.p (PV.sc (Value.int IntKind.i64 r)), AV.p (PV.sc (Value.int IntKind.u32 a)), AV.p (PV.sc (Value.int IntKind.u32 b)), AV.p (PV.sc (Value.int IntKind.i32 nn)), AV.p (PV.ps tg.length 1 (encT IntKind.u32 tg)), AV.p (PV.ps ll.length 8 (encL ll)), AV.p (PV.ps le.length 8 (encL le))]], [], AV.p (PV.sc (Value.bool ok)), []⟩
       (.test (!ok)
        (.out (Out.ret (AV.tup []) [Blk.ob (loopK Tryd.prog 12 0 (endState (Option.some Code.ret)) (Option.some Code.ret)) [AV.p (PV.ps l.length 8 (encL l)), AV.junk, AV.mp 2 0, AV.p (PV.sc (Value.bool false)), AV.mp 3 0, AV.mp 4 0, AV.mp 5 0, AV.junk, AV.junk, AV.p (PV.ps l.length 8 (encL l)), AV.fn (Fn.func 62) [] [AV.mp 1 0], AV.junk, AV.junk, AV.junk, AV.junk, AV.junk, AV.junk, AV.junk, AV.junk, AV.junk, AV.junk, AV.junk, AV.junk, AV.junk, AV.junk, AV.junk, AV.junk, AV.junk, AV.junk, AV.junk, AV.junk, AV.junk, AV.junk, AV.junk, AV.junk, AV.junk, AV.junk], Blk.pc [PV.ps l.length 8 (encL l)], Blk.pc [PV.sc (Value.int IntKind.i64 2)], Blk.pc [PV.sc (Value.int IntKind.i64 tags)], Blk.pc [PV.sc (Value.int IntKind.i64 n)], Blk.pc [PV.sc (Value.int IntKind.i64 most)]]))
        (.need (AV.p (PV.sc (Value.int IntKind.i64 (IntKind.i64.wrap (n + 1)))) = sI IntKind.i64 (n + 1))
         (.test (decide ((↑ll.length : Int) > 0))
          (.need (AV.p (PV.sc (Value.int IntKind.i64 (IntKind.i64.wrap (d + 1)))) = sI IntKind.i64 (d + 1))
           (.must (((k + 1) * 32).ble lim && (k + 1).ble lim && ((k * 2).ble cells.length && true) && true)
            (.test (decide ((↑le.length : Int) > 0))
             (.need (AV.p (PV.sc (Value.int IntKind.i64 (IntKind.i64.wrap (d + 1)))) = sI IntKind.i64 (d + 1))
              (.must (((k + 1 + 1) * 32).ble lim && (k + 1 + 1).ble lim && (((k + 1) * 2).ble (List.take (k * 2) cells ++ [AV.p (PV.ps ll.length 8 (encL ll)), AV.p (PV.sc (Value.int IntKind.i64 (d + 1)))]).length && true) && true)
               (.need (AV.p (PV.sc (Value.int IntKind.i64 (IntKind.i64.wrap ((↑i : Int) + 1)))) = sI IntKind.i64 (↑(i + 1) : Int))
                (.at (bodyCfg Tryd.prog env 62 2 [AV.vy 0, AV.ms 6 0 (k + 1 + 1) 2 Option.none, AV.mp 7 0, AV.p (PV.ps xs.length 8 (encL xs)), AV.p (PV.sc (Value.int IntKind.i64 (↑xs.length : Int))), AV.p (PV.sc (Value.int IntKind.i64 (↑(i + 1) : Int)))] ([Blk.ob (loopK Tryd.prog 12 0 (endState Option.none) Option.none) [AV.p (PV.ps l.length 8 (encL l)), AV.junk, AV.mp 2 0, AV.p (PV.sc (Value.bool false)), AV.mp 3 0, AV.mp 4 0, AV.mp 5 0, AV.junk, AV.junk, AV.p (PV.ps l.length 8 (encL l)), AV.fn (Fn.func 62) [] [AV.mp 1 0], AV.junk, AV.junk, AV.junk, AV.junk, AV.junk, AV.junk, AV.junk, AV.junk, AV.junk, AV.junk, AV.junk, AV.junk, AV.junk, AV.junk, AV.junk, AV.junk, AV.junk, AV.junk, AV.junk, AV.junk, AV.junk, AV.junk, AV.junk, AV.junk, AV.junk, AV.junk], Blk.pc [PV.ps l.length 8 (encL l)], Blk.pc [PV.sc (Value.int IntKind.i64 0)], Blk.pc [PV.sc (Value.int IntKind.i64 (bif false then Min.min tags (↑tg.length : Int) else Max.max tags (↑tg.length : Int)))], Blk.pc [PV.sc (Value.int IntKind.i64 (n + 1))], Blk.pc [PV.sc (Value.int IntKind.i64 (bif false then Min.min most d else Max.max most d))], Blk.ob (ObK.gr 116 true) (List.map keepP (List.take ((k + 1) * 2) (List.take (k * 2) cells ++ [AV.p (PV.ps ll.length 8 (encL ll)), AV.p (PV.sc (Value.int IntKind.i64 (d + 1)))]) ++ [AV.p (PV.ps le.length 8 (encL le)), AV.p (PV.sc (Value.int IntKind.i64 (d + 1)))])), Blk.ac [AV.p (PV.ps xs.length 8 (encL xs)), AV.p (PV.sc (Value.int IntKind.i64 d))]]) 6 64)))))
             (.need (AV.p (PV.sc (Value.int IntKind.i64 (IntKind.i64.wrap ((↑i : Int) + 1)))) = sI IntKind.i64 (↑(i + 1) : Int))
              (.at (bodyCfg Tryd.prog env 62 2 [AV.vy 0, AV.ms 6 0 (k + 1) 2 Option.none, AV.mp 7 0, AV.p (PV.ps xs.length 8 (encL xs)), AV.p (PV.sc (Value.int IntKind.i64 (↑xs.length : Int))), AV.p (PV.sc (Value.int IntKind.i64 (↑(i + 1) : Int)))] ([Blk.ob (loopK Tryd.prog 12 0 (endState Option.none) Option.none) [AV.p (PV.ps l.length 8 (encL l)), AV.junk, AV.mp 2 0, AV.p (PV.sc (Value.bool false)), AV.mp 3 0, AV.mp 4 0, AV.mp 5 0, AV.junk, AV.junk, AV.p (PV.ps l.length 8 (encL l)), AV.fn (Fn.func 62) [] [AV.mp 1 0], AV.junk, AV.junk, AV.junk, AV.junk, AV.junk, AV.junk, AV.junk, AV.junk, AV.junk, AV.junk, AV.junk, AV.junk, AV.junk, AV.junk, AV.junk, AV.junk, AV.junk, AV.junk, AV.junk, AV.junk, AV.junk, AV.junk, AV.junk, AV.junk, AV.junk, AV.junk], Blk.pc [PV.ps l.length 8 (encL l)], Blk.pc [PV.sc (Value.int IntKind.i64 0)], Blk.pc [PV.sc (Value.int IntKind.i64 (bif false then Min.min tags (↑tg.length : Int) else Max.max tags (↑tg.length : Int)))], Blk.pc [PV.sc (Value.int IntKind.i64 (n + 1))], Blk.pc [PV.sc (Value.int IntKind.i64 (bif false then Min.min most d else Max.max most d))], Blk.ob (ObK.gr 116 true) (List.map keepP (List.take (k * 2) cells ++ [AV.p (PV.ps ll.length 8 (encL ll)), AV.p (PV.sc (Value.int IntKind.i64 (d + 1)))])), Blk.ac [AV.p (PV.ps xs.length 8 (encL xs)), AV.p (PV.sc (Value.int IntKind.i64 d))]]) 6 64))))))
          (.test (decide ((↑le.length : Int) > 0))
           (.need (AV.p (PV.sc (Value.int IntKind.i64 (IntKind.i64.wrap (d + 1)))) = sI IntKind.i64 (d + 1))
            (.must (((k + 1) * 32).ble lim && (k + 1).ble lim && ((k * 2).ble cells.length && true) && true)
             (.need (AV.p (PV.sc (Value.int IntKind.i64 (IntKind.i64.wrap ((↑i : Int) + 1)))) = sI IntKind.i64 (↑(i + 1) : Int))
              (.at (bodyCfg Tryd.prog env 62 2 [AV.vy 0, AV.ms 6 0 (k + 1) 2 Option.none, AV.mp 7 0, AV.p (PV.ps xs.length 8 (encL xs)), AV.p (PV.sc (Value.int IntKind.i64 (↑xs.length : Int))), AV.p (PV.sc (Value.int IntKind.i64 (↑(i + 1) : Int)))] ([Blk.ob (loopK Tryd.prog 12 0 (endState Option.none) Option.none) [AV.p (PV.ps l.length 8 (encL l)), AV.junk, AV.mp 2 0, AV.p (PV.sc (Value.bool false)), AV.mp 3 0, AV.mp 4 0, AV.mp 5 0, AV.junk, AV.junk, AV.p (PV.ps l.length 8 (encL l)), AV.fn (Fn.func 62) [] [AV.mp 1 0], AV.junk, AV.junk, AV.junk, AV.junk, AV.junk, AV.junk, AV.junk, AV.junk, AV.junk, AV.junk, AV.junk, AV.junk, AV.junk, AV.junk, AV.junk, AV.junk, AV.junk, AV.junk, AV.junk, AV.junk, AV.junk, AV.junk, AV.junk, AV.junk, AV.junk, AV.junk], Blk.pc [PV.ps l.length 8 (encL l)], Blk.pc [PV.sc (Value.int IntKind.i64 0)], Blk.pc [PV.sc (Value.int IntKind.i64 (bif false then Min.min tags (↑tg.length : Int) else Max.max tags (↑tg.length : Int)))], Blk.pc [PV.sc (Value.int IntKind.i64 (n + 1))], Blk.pc [PV.sc (Value.int IntKind.i64 (bif false then Min.min most d else Max.max most d))], Blk.ob (ObK.gr 116 true) (List.map keepP (List.take (k * 2) cells ++ [AV.p (PV.ps le.length 8 (encL le)), AV.p (PV.sc (Value.int IntKind.i64 (d + 1)))])), Blk.ac [AV.p (PV.ps xs.length 8 (encL xs)), AV.p (PV.sc (Value.int IntKind.i64 d))]]) 6 64)))))
           (.need (AV.p (PV.sc (Value.int IntKind.i64 (IntKind.i64.wrap ((↑i : Int) + 1)))) = sI IntKind.i64 (↑(i + 1) : Int))
            (.at (bodyCfg Tryd.prog env 62 2 [AV.vy 0, AV.ms 6 0 k 2 Option.none, AV.mp 7 0, AV.p (PV.ps xs.length 8 (encL xs)), AV.p (PV.sc (Value.int IntKind.i64 (↑xs.length : Int))), AV.p (PV.sc (Value.int IntKind.i64 (↑(i + 1) : Int)))] ([Blk.ob (loopK Tryd.prog 12 0 (endState Option.none) Option.none) [AV.p (PV.ps l.length 8 (encL l)), AV.junk, AV.mp 2 0, AV.p (PV.sc (Value.bool false)), AV.mp 3 0, AV.mp 4 0, AV.mp 5 0, AV.junk, AV.junk, AV.p (PV.ps l.length 8 (encL l)), AV.fn (Fn.func 62) [] [AV.mp 1 0], AV.junk, AV.junk, AV.junk, AV.junk, AV.junk, AV.junk, AV.junk, AV.junk, AV.junk, AV.junk, AV.junk, AV.junk, AV.junk, AV.junk, AV.junk, AV.junk, AV.junk, AV.junk, AV.junk, AV.junk, AV.junk, AV.junk, AV.junk, AV.junk, AV.junk, AV.junk], Blk.pc [PV.ps l.length 8 (encL l)], Blk.pc [PV.sc (Value.int IntKind.i64 0)], Blk.pc [PV.sc (Value.int IntKind.i64 (bif false then Min.min tags (↑tg.length : Int) else Max.max tags (↑tg.length : Int)))], Blk.pc [PV.sc (Value.int IntKind.i64 (n + 1))], Blk.pc [PV.sc (Value.int IntKind.i64 (bif false then Min.min most d else Max.max most d))], Blk.ob (ObK.gr 116 true) (List.map keepP cells), Blk.ac [AV.p (PV.ps xs.length 8 (encL xs)), AV.p (PV.sc (Value.int IntKind.i64 d))]]) 6 64)))))))))))
   (.at (bodyCfg Tryd.prog env 62 0 [AV.vy 0, AV.ms 6 0 k 2 Option.none] ([Blk.ob (loopK Tryd.prog 12 0 LoopState.ready Option.none) [AV.p (PV.ps l.length 8 (encL l)), AV.junk, AV.mp 2 0, AV.p (PV.sc (Value.bool false)), AV.mp 3 0, AV.mp 4 0, AV.mp 5 0, AV.junk, AV.junk, AV.p (PV.ps l.length 8 (encL l)), AV.fn (Fn.func 62) [] [AV.mp 1 0], AV.junk, AV.junk, AV.junk, AV.junk, AV.junk, AV.junk, AV.junk, AV.junk, AV.junk, AV.junk, AV.junk, AV.junk, AV.junk, AV.junk, AV.junk, AV.junk, AV.junk, AV.junk, AV.junk, AV.junk, AV.junk, AV.junk, AV.junk, AV.junk, AV.junk, AV.junk], Blk.pc [PV.ps l.length 8 (encL l)], Blk.pc [PV.sc (Value.int IntKind.i64 0)], Blk.pc [PV.sc (Value.int IntKind.i64 tags)], Blk.pc [PV.sc (Value.int IntKind.i64 n)], Blk.pc [PV.sc (Value.int IntKind.i64 most)], Blk.ob (ObK.gr 116 true) (List.map keepP cells)]) 6 64)))
theorem inn_tree (l : List Ins) (tags : Int) (n : Int) (most : Int) (cells : List AV) (k : Nat) (xs : List Ins) (d : Int) (i : Nat) (op : Int) (r : Int) (a : Int) (b : Int) (nn : Int) (tg : List Int) (ll : List Ins) (le : List Ins) (ok : Bool) : grow Tryd.prog env (innOrc l tags n most cells k xs d i op r a b nn tg ll le ok) 1000000 true (bodyCfg Tryd.prog env 62 2 ([AV.vy 0, AV.ms 6 0 k 2 Option.none, AV.mp 7 0, aL xs, sI IntKind.i64 (↑xs.length : Int), sI IntKind.i64 (↑i : Int)]) (memC l tags n most cells ++ [Blk.ac [aL xs, sI IntKind.i64 d]]) 6 64) innSc atEnd = innTree l tags n most cells k xs d i op r a b nn tg ll le ok := by kernel_rfl


/-- How the memory is at the end: all gone through; or one was not as it should be. -/
noncomputable def finC (l : List Ins) (tags n most : Int) : Out := .ret (.tup []) [recC l .ready none, .pc [.ps l.length 8 (encL l)], .pc [sP 0], .pc [sP tags], .pc [sP n], .pc [sP most]]
noncomputable def badC (l : List Ins) (tags n most : Int) : Out := .ret (.tup []) [recC l .done (some .ret), .pc [.ps l.length 8 (encL l)], .pc [sP 2], .pc [sP tags], .pc [sP n], .pc [sP most]]

def bigN : Nat := 1000000000000

/-- What is told of a stack that is gone through. -/
def ToldC (p : Ins → Bool) (l : List Ins) (st : InsS) (tags n most : Nat) (o : Out) : Prop :=
  (okS p st = true ∧ o = finC l (max tags (tagS st) : Nat) (n + numS st : Nat) (max most (depS st) : Nat)) ∨ (okS p st = false ∧ ∃ t k m, o = badC l t k m)


section
variable (p : Ins → Bool) (hp : ∀ x : Ins, Does Tryd.prog env 26 [aggX x] [] (sB (p x)) []) (l : List Ins)


include hp in
theorem chk_inner (N : Nat) (ih : ∀ (st : InsS) (cells : List AV) (tags n most : Nat), wS st < N → StkAt st cells → n + numS st ≤ bigN → wS st ≤ bigN → (∀ e ∈ st, e.2 + numL e.1 ≤ bigN) →
      ∃ o, Am.Good Tryd.prog env (bodyCfg Tryd.prog env 62 0 [.vy 0, .ms 6 0 st.length 2 none] (memC l tags n most cells) 6 64) o ∧ ToldC p l st tags n most o) (xs : List Ins) (hxs : xs.length ≤ bigN) (d : Nat) :
    ∀ (r i : Nat) (st : InsS) (cells : List AV) (tags n most : Nat), i + r = xs.length → wS st + 2 * numL (xs.drop i) < N → StkAt st cells → n + numS st + numL (xs.drop i) ≤ bigN → wS st + 2 * numL (xs.drop i) ≤ bigN → (∀ e ∈ st, e.2 + numL e.1 ≤ bigN) → d + numL (xs.drop i) ≤ bigN →
      ∃ o, Am.Good Tryd.prog env (bodyCfg Tryd.prog env 62 2 [.vy 0, .ms 6 0 st.length 2 none, .mp 7 0, aL xs, sI .i64 xs.length, sI .i64 i] (memC l tags n most cells ++ [.ac [aL xs, sI .i64 d]]) 6 64) o ∧ ToldC p l (st ++ [(xs.drop i, d)]) tags n most o := by
  intro r
  induction r with
  | zero =>
    intro i st cells tags n most hi hN ht hn hw he hd
    have h1 : xs.drop i = [] := List.drop_eq_nil_of_le (by omega)
    rw [h1] at hN hn hw ⊢
    simp only [numL] at hN hn hw
    obtain ⟨o, ho, hq⟩ := ih st (cells.map keepP) tags n most (by omega) ht.keep (by omega) (by omega) he
    refine ⟨o, good_of_tree names (inn_tree l tags n most cells st.length xs d i 0 0 0 0 0 [] [] [] true) ?_, ?_⟩
    · have h2 : ¬ ((i : Int) < xs.length) := by omega
      simp only [innTree, Tree.ok]
      exact ⟨fun h => absurd (by simpa using h) h2, fun _ => ho⟩
    · unfold ToldC at hq ⊢
      rw [okS_append, numS_append, tagS_append, depS_append]
      simpa [okL, numL, tagL, depL] using hq
  | succ r ihr =>
    intro i st cells tags n most hi hN ht hn hw he hd
    have hkl : i < xs.length := by omega
    have hgx : xs[i]? = some xs[i] := List.getElem?_eq_getElem hkl
    have hdr : xs.drop i = xs[i] :: xs.drop (i + 1) := List.drop_eq_getElem_cons hkl
    rw [hdr] at hN hn hw hd ⊢
    generalize xs[i] = x at *
    generalize hys : xs.drop (i + 1) = ys at *
    obtain ⟨op, rs, a, b, nn, tg, ll, le⟩ := x
    obtain ⟨c0, c1, c2, c3, c4, c5, c6, c7⟩ := cells_at hgx
    have hpx := hp (.mk op rs a b nn tg ll le)
    have hbig : bigN = 1000000000000 := rfl
    have hlim : lim = 70368744177664 := rfl
    simp only [numL, numI] at hN hn hw hd
    have hsl := wS_length st
    have hcl := ht.len
    have w1 : IntKind.i64.wrap ((i : Int) + 1) = ((i + 1 : Nat) : Int) := by rw [i64In (by omega) (by omega)]; rfl
    have w2 : IntKind.i64.wrap ((d : Int) + 1) = ((d + 1 : Nat) : Int) := by rw [i64In (by omega) (by omega)]; rfl
    have w3 : IntKind.i64.wrap ((n : Int) + 1) = ((n + 1 : Nat) : Int) := by rw [i64In (by omega) (by omega)]; rfl
    have hiI : (i : Int) < (xs.length : Int) := by omega
    cases hok : p (.mk op rs a b nn tg ll le) with
    | false =>
      refine ⟨badC l tags n most, good_of_tree names (inn_tree l tags n most cells st.length xs d i op rs a b nn tg ll le false) ?_, .inr ⟨?_, _, _, _, rfl⟩⟩
      · simp only [innTree, Tree.ok, Int.toNat_natCast, Nat.add_assoc, Nat.reduceAdd, c0, c1, c2, c3, c4, c5, c6, c7, isInt, isPs, pvInt, psLen, psSz, psCells, inB]
        refine ⟨fun _ => ⟨by simp [hiI], by simp, rfl, ?_, fun _ => rfl, fun h => by cases h⟩, fun h => absurd hiI (by simpa using h)⟩
        rw [hok] at hpx; exact hpx
      · rw [okS_append, okS_one, okL, okI, hok]; simp
    | true =>
      -- what is pushed
      have next : ∀ (s : InsS) (cs : List AV), StkAt (st ++ s) cs → wS s ≤ 2 * (numL ll + numL le) + 2 → numS s = numL ll + numL le → okS p s = (okL p ll && okL p le) → tagS s = max (tagL ll) (tagL le) → depS s = max (depL (d + 1) ll) (depL (d + 1) le) → (∀ e ∈ s, e.2 + numL e.1 ≤ bigN) →
          ∃ o, Am.Good Tryd.prog env (bodyCfg Tryd.prog env 62 2 [.vy 0, .ms 6 0 (st ++ s).length 2 none, .mp 7 0, aL xs, sI .i64 xs.length, sI .i64 (i + 1 : Nat)] (memC l (max tags tg.length : Nat) (n + 1 : Nat) (max most d : Nat) cs ++ [.ac [aL xs, sI .i64 d]]) 6 64) o ∧ ToldC p l (st ++ [(.mk op rs a b nn tg ll le :: ys, d)]) tags n most o := by
        intro s cs hts hws hns hos htg hds hes
        obtain ⟨o, ho, hq⟩ := ihr (i + 1) (st ++ s) cs (max tags tg.length) (n + 1) (max most d) (by omega) (by rw [wS_append, hys]; omega) hts (by rw [numS_append, hys]; omega) (by rw [wS_append, hys]; omega)
          (fun e hm => (List.mem_append.1 hm).elim (he e) (hes e)) (by rw [hys]; omega)
        refine ⟨o, ho, ?_⟩
        rw [hys] at hq
        unfold ToldC at hq ⊢
        simp only [okS_append, numS_append, tagS_append, depS_append, okS_one, numS_one, tagS_one, depS_one, hos, hns, htg, hds] at hq ⊢
        simp only [okL, okI, numL, numI, tagL, tagI, depL, depI, hok, Bool.true_and]
        rcases hq with ⟨q1, q2⟩ | ⟨q1, q2⟩
        · refine .inl ⟨by rw [Bool.and_assoc] at q1; exact q1, ?_⟩
          rw [q2]
          congr 1 <;> congr 1 <;> omega
        · exact .inr ⟨by rw [Bool.and_assoc] at q1; exact q1, q2⟩
      have tree := inn_tree l tags n most cells st.length xs d i op rs a b nn tg ll le true
      have hpx' : Does Tryd.prog env 26 [aggI op rs a b nn tg ll le] [] (sB true) [] := by rw [hok] at hpx; exact hpx
      have mx1 : max (tags : Int) (tg.length : Int) = ((max tags tg.length : Nat) : Int) := by omega
      have mx2 : max (most : Int) (d : Int) = ((max most d : Nat) : Int) := by omega
      have nl : ∀ z : List Ins, z ≠ [] → 0 < (z.length : Int) := fun z hz => by have := List.length_pos_iff.2 hz; omega
      by_cases hll : ll = []
      · by_cases hle : le = []
        · subst hll; subst hle
          obtain ⟨o, ho, hq⟩ := next [] (cells.map keepP) (by rw [List.append_nil]; exact ht.keep) (by simp [wS, numL]) (by simp [numS, numL]) (by simp [okS, okL]) (by simp [tagS, tagL]) (by simp [depS, depL]) (fun _ h => by cases h)
          refine ⟨o, good_of_tree names tree ?_, hq⟩
          simp only [innTree, Tree.ok, Int.toNat_natCast, Nat.add_assoc, Nat.reduceAdd, c0, c1, c2, c3, c4, c5, c6, c7, isInt, isPs, pvInt, psLen, psSz, psCells, inB, w1, w2, w3, cond_false, mx1, mx2]
          rw [List.append_nil] at ho
          exact ⟨fun _ => ⟨by simp [hiI], by simp, rfl, hpx', fun h => (by cases h), fun _ => ⟨rfl, fun h => (by simp at h), fun _ => ⟨fun h => (by simp at h), fun _ => ⟨(by trivial), ho⟩⟩⟩⟩, fun h => absurd hiI (by simpa using h)⟩
        · subst hll
          have nle := nl le hle
          obtain ⟨o, ho, hq⟩ := next [(le, d + 1)] _ (ht.push le (d + 1)).keep (by simp [numL]) (by simp [numL]) (by simp [okL]) (by simp [tagL]) (by simp [depL]) (fun e h => by simp only [List.mem_singleton] at h; subst h; simp only; omega)
          refine ⟨o, good_of_tree names tree ?_, hq⟩
          simp only [innTree, Tree.ok, Int.toNat_natCast, Nat.add_assoc, Nat.reduceAdd, c0, c1, c2, c3, c4, c5, c6, c7, isInt, isPs, pvInt, psLen, psSz, psCells, inB, w1, w2, w3, cond_false, mx1, mx2]
          rw [List.length_append] at ho
          exact ⟨fun _ => ⟨by simp [hiI], by simp, rfl, hpx', fun h => (by cases h), fun _ => ⟨rfl, fun h => (by simp at h), fun _ => ⟨fun _ => ⟨rfl, (by simp; omega), (by trivial), ho⟩, fun h => absurd nle (by simpa using h)⟩⟩⟩, fun h => absurd hiI (by simpa using h)⟩
      · have nll := nl ll hll
        by_cases hle : le = []
        · subst hle
          obtain ⟨o, ho, hq⟩ := next [(ll, d + 1)] _ (ht.push ll (d + 1)).keep (by simp [numL]) (by simp [numL]) (by simp [okL]) (by simp [tagL]) (by simp [depL]) (fun e h => by simp only [List.mem_singleton] at h; subst h; simp only; omega)
          refine ⟨o, good_of_tree names tree ?_, hq⟩
          simp only [innTree, Tree.ok, Int.toNat_natCast, Nat.add_assoc, Nat.reduceAdd, c0, c1, c2, c3, c4, c5, c6, c7, isInt, isPs, pvInt, psLen, psSz, psCells, inB, w1, w2, w3, cond_false, mx1, mx2]
          rw [List.length_append] at ho
          exact ⟨fun _ => ⟨by simp [hiI], by simp, rfl, hpx', fun h => (by cases h), fun _ => ⟨rfl, fun _ => ⟨rfl, (by simp; omega), fun h => (by simp at h), fun _ => ⟨(by trivial), ho⟩⟩, fun h => absurd nll (by simpa using h)⟩⟩, fun h => absurd hiI (by simpa using h)⟩
        · have nle := nl le hle
          have hp2 := (ht.push ll (d + 1)).push le (d + 1)
          rw [List.append_assoc] at hp2
          obtain ⟨o, ho, hq⟩ := next [(ll, d + 1), (le, d + 1)] _ hp2.keep (by simp [wS]; omega) (by simp [numS]) (by simp [okS]) (by simp [tagS]) (by simp [depS]) (fun e h => by simp only [List.mem_cons, List.not_mem_nil, or_false] at h; rcases h with rfl | rfl <;> simp only <;> omega)
          refine ⟨o, good_of_tree names tree ?_, hq⟩
          simp only [innTree, Tree.ok, Int.toNat_natCast, Nat.add_assoc, Nat.reduceAdd, c0, c1, c2, c3, c4, c5, c6, c7, isInt, isPs, pvInt, psLen, psSz, psCells, inB, w1, w2, w3, cond_false, mx1, mx2]
          simp only [List.length_append, List.length_cons, List.length_nil, Nat.reduceAdd] at ho
          exact ⟨fun _ => ⟨by simp [hiI], by simp, rfl, hpx', fun h => (by cases h), fun _ => ⟨rfl, fun _ => ⟨rfl, (by simp; omega), fun _ => ⟨rfl, (by simp; omega), (by trivial), ho⟩, fun h => absurd nle (by simpa using h)⟩, fun h => absurd nll (by simpa using h)⟩⟩, fun h => absurd hiI (by simpa using h)⟩

include hp in
theorem chk_outer : ∀ (N : Nat) (st : InsS) (cells : List AV) (tags n most : Nat), wS st < N → StkAt st cells → n + numS st ≤ bigN → wS st ≤ bigN → (∀ e ∈ st, e.2 + numL e.1 ≤ bigN) →
      ∃ o, Am.Good Tryd.prog env (bodyCfg Tryd.prog env 62 0 [.vy 0, .ms 6 0 st.length 2 none] (memC l tags n most cells) 6 64) o ∧ ToldC p l st tags n most o
  | 0, _, _, _, _, _, h, _, _, _, _ => by omega
  | N + 1, st, cells, tags, n, most, hN, ht, hn, hw, he => by
    rcases List.eq_nil_or_concat st with rfl | ⟨s, ⟨x, d⟩, rfl⟩
    · exact ⟨_, good_of_tree names (oue_tree l tags n most cells) rfl, .inl ⟨rfl, (by simp [tagS, numS, depS]; rfl)⟩⟩
    · rw [List.concat_eq_append] at *
      have hx := he (x, d) (by simp)
      rw [wS_append, wS_one] at hN hw
      rw [numS_append, numS_one] at hn
      obtain ⟨t0, t1⟩ := ht.top
      have hcl := ht.len
      have hsl := wS_length s
      have hbig : bigN = 1000000000000 := rfl
      have hnx := numL_length x
      simp only [List.length_append, List.length_cons, List.length_nil] at hcl hx
      obtain ⟨o, ho, hq⟩ := chk_inner p hp l N (fun st cells tags n most => chk_outer N st cells tags n most) x (by omega) d x.length 0 s (cells.map keepP) tags n most (by omega) (by rw [List.drop_zero]; omega) ht.pop.keep (by rw [List.drop_zero]; omega) (by rw [List.drop_zero]; omega)
        (fun e hm => he e (List.mem_append_left _ hm)) (by rw [List.drop_zero]; omega)
      rw [List.drop_zero] at hq
      refine ⟨o, ?_, hq⟩
      have w1 : IntKind.i64.wrap (((s.length + 1 : Nat) : Int) - 1) = (s.length : Int) := by rw [i64In (by omega) (by omega)]; omega
      rw [List.length_append, List.length_singleton]
      refine good_of_tree names (out_tree l tags n most cells s.length x d) ?_
      simp only [outTree, Tree.ok, Int.toNat_natCast, Nat.zero_add, t0, t1, normA, normP, w1, isInt, isPs, pvInt, psLen, psSz, psCells, inB, Nat.sub_zero]
      exact ⟨fun _ => ⟨(by trivial), (by simp; omega), (by simp; omega), (by trivial), (by trivial), (by simp), ho⟩, fun h => absurd h (by simp)⟩

end
end Go.Proofs.YtjjloibfhgofcaaDoor.N
