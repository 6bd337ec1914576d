/-
  instr.Deep: the going through of instructions, by its trees (printed by a program of mine): the outer loop, its end, the inner loop.
-/
import Derived.Test.YtjjloibfhgofcaaDoorICB
namespace Go.Proofs.YtjjloibfhgofcaaDoor.N
open Go Go.Am

noncomputable def recd (l : List Ins) (st : LoopState) (pd : Option Code) : Blk := .ob (loopK Tryd.prog 15 0 st pd) [aL l, .junk, .p (.sc (.int .i64 0)), .mp 2 0, .junk, aL l, .fn (.func 62) [] [.mp 1 0], .junk, .junk, .junk, .junk, .junk, .junk]
noncomputable def memd (l : List Ins) (n : Int) (cells : List AV) : Mem := [recd l .ready none, .pc [.ps l.length 8 (encL l)], .pc [sP n], .ob (.gr 116 true) cells]
def doutS (_l : List Ins) (_n : Int) (_cells : List AV) (k : Nat) (x : List Ins) (d : Int) : FuncId → Nat → Nat → Option (AV → AV) := shapeAt [(62, 3, 3, sI .i64 k), (62, 3, 5, .agg [aL x, sI .i64 d]), (62, 4, 3, sI .i64 k)]
def dinnS (_l : List Ins) (_n : Int) (_cells : List AV) (_k : Nat) (_xs : List Ins) (d : Int) (i : Nat) (op r a b nn : Int) (tg : List Int) (ll le : List Ins) (_ok : Bool) : FuncId → Nat → Nat → Option (AV → AV) := shapeAt [(62, 7, 1, aggI op r a b nn tg ll le), (62, 13, 0, sI .i64 ((i + 1 : Nat) : Int)), (62, 10, 5, sI .i64 (d + 1)), (62, 12, 5, sI .i64 (d + 1))]
def dinnC (_l : List Ins) (_n : Int) (_cells : List AV) (_k : Nat) (_xs : List Ins) (_d : Int) (_i : Nat) (_op _r _a _b _nn : Int) (_tg : List Int) (_ll _le : List Ins) (ok : Bool) (f : FuncId) (_ : List AV) (m : Mem) : Option (AV × Mem) := cond (Nat.beq f 26) (some (sB ok, m)) none
/- dout: 42 steps -/
def doutOrc (l : List Ins) (n : Int) (cells : List AV) (k : Nat) (x : List Ins) (d : Int) : Orc := orcS noCall noLed [(62, 0), (62, 2)] [(62, 0, 1)] [(62, 3, 4), (62, 3, 5), (62, 4, 4)] (doutS l n cells k x d)
def doutSc : Sc := .fin
noncomputable def doutTree (l : List Ins) (n : Int) (cells : List AV) (k : Nat) (x : List Ins) (d : Int) : Tree :=
  (.test (decide ((↑(k + 1) : Int) > 0))
   (.need (AV.p (PV.sc (Value.int IntKind.i64 (IntKind.i64.wrap ((↑(k + 1) : Int) - 1)))) = sI IntKind.i64 (↑k : Int))
    (.must (inB (↑k : Int) (k + 1) && true && true)
     (.must ((0 + (↑k : Int).toNat * 2 + 2).ble cells.length && ((normA (Option.some (TypeInfo.mk (TypeDesc.slice 50) "[]api.Instr" 1 24 true 8 8 (Option.some (Value.slice Option.none 0 0)) false #[]).desc) (cells.getD (0 + (↑k : Int).toNat * 2) AV.junk)).snd && ((normA (Option.some (TypeInfo.mk (TypeDesc.int IntKind.i64) "int" 1 8 false 8 8 (Option.some (Value.int IntKind.i64 0)) true #[]).desc) (cells.getD (0 + (↑k : Int).toNat * 2 + 1) AV.junk)).snd && true)) && true)
      (.need (AV.agg [(normA (Option.some (TypeInfo.mk (TypeDesc.slice 50) "[]api.Instr" 1 24 true 8 8 (Option.some (Value.slice Option.none 0 0)) false #[]).desc) (cells.getD (0 + (↑k : Int).toNat * 2) AV.junk)).fst, (normA (Option.some (TypeInfo.mk (TypeDesc.int IntKind.i64) "int" 1 8 false 8 8 (Option.some (Value.int IntKind.i64 0)) true #[]).desc) (cells.getD (0 + (↑k : Int).toNat * 2 + 1) AV.junk)).fst] = AV.agg [aL x, sI IntKind.i64 d])
       (.need (AV.p (PV.sc (Value.int IntKind.i64 (IntKind.i64.wrap ((↑(k + 1) : Int) - 1)))) = sI IntKind.i64 (↑k : Int))
        (.must ((↑k : Int).toNat.ble (k + 1) && true && true && true)
         (.at (bodyCfg Tryd.prog env 62 2 [AV.vy 0, AV.ms 3 0 ((↑k : Int).toNat - 0) 2 Option.none, AV.mp 4 0, AV.p (PV.ps x.length 8 (encL x)), AV.p (PV.sc (Value.int IntKind.i64 (↑x.length : Int))), AV.p (PV.sc (Value.int IntKind.i64 0))] ([Blk.ob (loopK Tryd.prog 15 0 LoopState.ready Option.none) [AV.p (PV.ps l.length 8 (encL l)), AV.junk, AV.p (PV.sc (Value.int IntKind.i64 0)), AV.mp 2 0, AV.junk, AV.p (PV.ps l.length 8 (encL l)), AV.fn (Fn.func 62) [] [AV.mp 1 0], AV.junk, AV.junk, AV.junk, AV.junk, AV.junk, AV.junk], Blk.pc [PV.ps l.length 8 (encL l)], Blk.pc [PV.sc (Value.int IntKind.i64 n)], Blk.ob (ObK.gr 116 true) (List.map keepP cells), Blk.ac [AV.p (PV.ps x.length 8 (encL x)), AV.p (PV.sc (Value.int IntKind.i64 d))]]) 3 64))))))))
   (.out (Out.ret (AV.tup []) [Blk.ob (loopK Tryd.prog 15 0 LoopState.ready Option.none) [AV.p (PV.ps l.length 8 (encL l)), AV.junk, AV.p (PV.sc (Value.int IntKind.i64 0)), AV.mp 2 0, AV.junk, AV.p (PV.ps l.length 8 (encL l)), AV.fn (Fn.func 62) [] [AV.mp 1 0], AV.junk, AV.junk, AV.junk, AV.junk, AV.junk, AV.junk], Blk.pc [PV.ps l.length 8 (encL l)], Blk.pc [PV.sc (Value.int IntKind.i64 n)]])))
theorem dout_tree (l : List Ins) (n : Int) (cells : List AV) (k : Nat) (x : List Ins) (d : Int) : grow Tryd.prog env (doutOrc l n cells k x d) 1000000 true (bodyCfg Tryd.prog env 62 0 ([AV.vy 0, AV.ms 3 0 (k + 1) 2 Option.none]) (memd l n cells) 3 64) doutSc atEnd = doutTree l n cells k x d := by kernel_rfl

/- doue: 11 steps -/
def doueOrc : Orc := orcL noCall noLed [(62, 0), (62, 2)] [] []
def doueSc : Sc := .fin
noncomputable def doueTree (l : List Ins) (n : Int) (_cells : List AV) : Tree :=
  (.out (Out.ret (AV.tup []) [Blk.ob (loopK Tryd.prog 15 0 LoopState.ready Option.none) [AV.p (PV.ps l.length 8 (encL l)), AV.junk, AV.p (PV.sc (Value.int IntKind.i64 0)), AV.mp 2 0, AV.junk, AV.p (PV.ps l.length 8 (encL l)), AV.fn (Fn.func 62) [] [AV.mp 1 0], AV.junk, AV.junk, AV.junk, AV.junk, AV.junk, AV.junk], Blk.pc [PV.ps l.length 8 (encL l)], Blk.pc [PV.sc (Value.int IntKind.i64 n)]]))
theorem doue_tree (l : List Ins) (n : Int) (cells : List AV) : grow Tryd.prog env doueOrc 1000000 true (bodyCfg Tryd.prog env 62 0 ([AV.vy 0, AV.ms 3 0 0 2 Option.none]) ([recd l LoopState.ready Option.none, Blk.pc [PV.ps l.length 8 (encL l)], Blk.pc [sP n], Blk.ob (ObK.gr 116 true) cells]) 3 64) doueSc atEnd = doueTree l n cells := by kernel_rfl

/- dinn: 133 steps -/
def dinnOrc (l : List Ins) (n : Int) (cells : List AV) (k : Nat) (xs : List Ins) (d : Int) (i : Nat) (op : Int) (r : Int) (a : Int) (b : Int) (nn : Int) (tg : List Int) (ll : List Ins) (le : List Ins) (ok : Bool) : Orc := orcS (dinnC l n cells k xs d i op r a b nn tg ll le ok) noLed [(62, 0), (62, 2)] [(62, 0, 3), (62, 0, 5), (62, 0, 6)] [(62, 7, 0), (62, 7, 1), (62, 10, 8), (62, 12, 8)] (dinnS l n cells k xs d i op r a b nn tg ll le ok)
def dinnSc : Sc := .fin
noncomputable def dinnTree (l : List Ins) (n : Int) (cells : List AV) (k : Nat) (xs : List Ins) (d : Int) (i : Nat) (op : Int) (r : Int) (a : Int) (b : Int) (nn : Int) (tg : List Int) (ll : List Ins) (le : List Ins) (_ok : Bool) : Tree :=
  (.test (decide ((↑i : Int) < (↑xs.length : Int)))
   (.must (inB (↑i : Int) xs.length && true && true)
    (.must (isInt IntKind.i64 ((encL xs).getD ((↑i : Int).toNat * 8) PV.bad) && (isInt IntKind.i64 ((encL xs).getD ((↑i : Int).toNat * 8 + 1) PV.bad) && (isInt IntKind.u32 ((encL xs).getD ((↑i : Int).toNat * 8 + 1 + 1) PV.bad) && (isInt IntKind.u32 ((encL xs).getD ((↑i : Int).toNat * 8 + 1 + 1 + 1) PV.bad) && (isInt IntKind.i32 ((encL xs).getD ((↑i : Int).toNat * 8 + 1 + 1 + 1 + 1) PV.bad) && (isPs ((encL xs).getD ((↑i : Int).toNat * 8 + 1 + 1 + 1 + 1 + 1) PV.bad) && (isPs ((encL xs).getD ((↑i : Int).toNat * 8 + 1 + 1 + 1 + 1 + 1 + 1) PV.bad) && (isPs ((encL xs).getD ((↑i : Int).toNat * 8 + 1 + 1 + 1 + 1 + 1 + 1 + 1) PV.bad) && true))))))) && true)
     (.need (AV.agg [AV.p (PV.sc (Value.int IntKind.i64 (pvInt ((encL xs).getD ((↑i : Int).toNat * 8) PV.bad)))), AV.p (PV.sc (Value.int IntKind.i64 (pvInt ((encL xs).getD ((↑i : Int).toNat * 8 + 1) PV.bad)))), AV.p (PV.sc (Value.int IntKind.u32 (pvInt ((encL xs).getD ((↑i : Int).toNat * 8 + 1 + 1) PV.bad)))), AV.p (PV.sc (Value.int IntKind.u32 (pvInt ((encL xs).getD ((↑i : Int).toNat * 8 + 1 + 1 + 1) PV.bad)))), AV.p (PV.sc (Value.int IntKind.i32 (pvInt ((encL xs).getD ((↑i : Int).toNat * 8 + 1 + 1 + 1 + 1) PV.bad)))), AV.p (PV.ps (psLen ((encL xs).getD ((↑i : Int).toNat * 8 + 1 + 1 + 1 + 1 + 1) PV.bad)) (psSz ((encL xs).getD ((↑i : Int).toNat * 8 + 1 + 1 + 1 + 1 + 1) PV.bad)) (psCells ((encL xs).getD ((↑i : Int).toNat * 8 + 1 + 1 + 1 + 1 + 1) PV.bad))), AV.p (PV.ps (psLen ((encL xs).getD ((↑i : Int).toNat * 8 + 1 + 1 + 1 + 1 + 1 + 1) PV.bad)) (psSz ((encL xs).getD ((↑i : Int).toNat * 8 + 1 + 1 + 1 + 1 + 1 + 1) PV.bad)) (psCells ((encL xs).getD ((↑i : Int).toNat * 8 + 1 + 1 + 1 + 1 + 1 + 1) PV.bad))), AV.p (PV.ps (psLen ((encL xs).getD ((↑i : Int).toNat * 8 + 1 + 1 + 1 + 1 + 1 + 1 + 1) PV.bad)) (psSz ((encL xs).getD ((↑i : Int).toNat * 8 + 1 + 1 + 1 + 1 + 1 + 1 + 1) PV.bad)) (psCells ((encL xs).getD ((↑i : Int).toNat * 8 + 1 + 1 + 1 + 1 + 1 + 1 + 1) PV.bad)))] = aggI op r a b nn tg ll le)
      (.test (decide ((↑ll.length : Int) > 0))
       (.need (AV.p (PV.sc (Value.int IntKind.i64 (IntKind.i64.wrap (d + 1)))) = sI IntKind.i64 (d + 1))
        (.must (((k + 1) * 32).ble lim && (k + 1).ble lim && ((k * 2).ble cells.length && true) && true)
         (.test (decide ((↑le.length : Int) > 0))
          (.need (AV.p (PV.sc (Value.int IntKind.i64 (IntKind.i64.wrap (d + 1)))) = sI IntKind.i64 (d + 1))
           (.must (((k + 1 + 1) * 32).ble lim && (k + 1 + 1).ble lim && (((k + 1) * 2).ble (List.take (k * 2) cells ++ [AV.p (PV.ps ll.length 8 (encL ll)), AV.p (PV.sc (Value.int IntKind.i64 (d + 1)))]).length && true) && true)
            (.need (AV.p (PV.sc (Value.int IntKind.i64 (IntKind.i64.wrap ((↑i : Int) + 1)))) = sI IntKind.i64 (↑(i + 1) : Int))
             (.at (bodyCfg Tryd.prog env 62 2 [AV.vy 0, AV.ms 3 0 (k + 1 + 1) 2 Option.none, AV.mp 4 0, AV.p (PV.ps xs.length 8 (encL xs)), AV.p (PV.sc (Value.int IntKind.i64 (↑xs.length : Int))), AV.p (PV.sc (Value.int IntKind.i64 (↑(i + 1) : Int)))] ([Blk.ob (loopK Tryd.prog 15 0 (endState Option.none) Option.none) [AV.p (PV.ps l.length 8 (encL l)), AV.junk, AV.p (PV.sc (Value.int IntKind.i64 0)), AV.mp 2 0, AV.junk, AV.p (PV.ps l.length 8 (encL l)), AV.fn (Fn.func 62) [] [AV.mp 1 0], AV.junk, AV.junk, AV.junk, AV.junk, AV.junk, AV.junk], Blk.pc [PV.ps l.length 8 (encL l)], Blk.pc [PV.sc (Value.int IntKind.i64 (bif false then Min.min n d else Max.max n d))], Blk.ob (ObK.gr 116 true) (List.map keepP (List.take ((k + 1) * 2) (List.take (k * 2) cells ++ [AV.p (PV.ps ll.length 8 (encL ll)), AV.p (PV.sc (Value.int IntKind.i64 (d + 1)))]) ++ [AV.p (PV.ps le.length 8 (encL le)), AV.p (PV.sc (Value.int IntKind.i64 (d + 1)))])), Blk.ac [AV.p (PV.ps xs.length 8 (encL xs)), AV.p (PV.sc (Value.int IntKind.i64 d))]]) 3 64)))))
          (.need (AV.p (PV.sc (Value.int IntKind.i64 (IntKind.i64.wrap ((↑i : Int) + 1)))) = sI IntKind.i64 (↑(i + 1) : Int))
           (.at (bodyCfg Tryd.prog env 62 2 [AV.vy 0, AV.ms 3 0 (k + 1) 2 Option.none, AV.mp 4 0, AV.p (PV.ps xs.length 8 (encL xs)), AV.p (PV.sc (Value.int IntKind.i64 (↑xs.length : Int))), AV.p (PV.sc (Value.int IntKind.i64 (↑(i + 1) : Int)))] ([Blk.ob (loopK Tryd.prog 15 0 (endState Option.none) Option.none) [AV.p (PV.ps l.length 8 (encL l)), AV.junk, AV.p (PV.sc (Value.int IntKind.i64 0)), AV.mp 2 0, AV.junk, AV.p (PV.ps l.length 8 (encL l)), AV.fn (Fn.func 62) [] [AV.mp 1 0], AV.junk, AV.junk, AV.junk, AV.junk, AV.junk, AV.junk], Blk.pc [PV.ps l.length 8 (encL l)], Blk.pc [PV.sc (Value.int IntKind.i64 (bif false then Min.min n d else Max.max n d))], Blk.ob (ObK.gr 116 true) (List.map keepP (List.take (k * 2) cells ++ [AV.p (PV.ps ll.length 8 (encL ll)), AV.p (PV.sc (Value.int IntKind.i64 (d + 1)))])), Blk.ac [AV.p (PV.ps xs.length 8 (encL xs)), AV.p (PV.sc (Value.int IntKind.i64 d))]]) 3 64))))))
       (.test (decide ((↑le.length : Int) > 0))
        (.need (AV.p (PV.sc (Value.int IntKind.i64 (IntKind.i64.wrap (d + 1)))) = sI IntKind.i64 (d + 1))
         (.must (((k + 1) * 32).ble lim && (k + 1).ble lim && ((k * 2).ble cells.length && true) && true)
          (.need (AV.p (PV.sc (Value.int IntKind.i64 (IntKind.i64.wrap ((↑i : Int) + 1)))) = sI IntKind.i64 (↑(i + 1) : Int))
           (.at (bodyCfg Tryd.prog env 62 2 [AV.vy 0, AV.ms 3 0 (k + 1) 2 Option.none, AV.mp 4 0, AV.p (PV.ps xs.length 8 (encL xs)), AV.p (PV.sc (Value.int IntKind.i64 (↑xs.length : Int))), AV.p (PV.sc (Value.int IntKind.i64 (↑(i + 1) : Int)))] ([Blk.ob (loopK Tryd.prog 15 0 (endState Option.none) Option.none) [AV.p (PV.ps l.length 8 (encL l)), AV.junk, AV.p (PV.sc (Value.int IntKind.i64 0)), AV.mp 2 0, AV.junk, AV.p (PV.ps l.length 8 (encL l)), AV.fn (Fn.func 62) [] [AV.mp 1 0], AV.junk, AV.junk, AV.junk, AV.junk, AV.junk, AV.junk], Blk.pc [PV.ps l.length 8 (encL l)], Blk.pc [PV.sc (Value.int IntKind.i64 (bif false then Min.min n d else Max.max n d))], Blk.ob (ObK.gr 116 true) (List.map keepP (List.take (k * 2) cells ++ [AV.p (PV.ps le.length 8 (encL le)), AV.p (PV.sc (Value.int IntKind.i64 (d + 1)))])), Blk.ac [AV.p (PV.ps xs.length 8 (encL xs)), AV.p (PV.sc (Value.int IntKind.i64 d))]]) 3 64)))))
        (.need (AV.p (PV.sc (Value.int IntKind.i64 (IntKind.i64.wrap ((↑i : Int) + 1)))) = sI IntKind.i64 (↑(i + 1) : Int))
         (.at (bodyCfg Tryd.prog env 62 2 [AV.vy 0, AV.ms 3 0 k 2 Option.none, AV.mp 4 0, AV.p (PV.ps xs.length 8 (encL xs)), AV.p (PV.sc (Value.int IntKind.i64 (↑xs.length : Int))), AV.p (PV.sc (Value.int IntKind.i64 (↑(i + 1) : Int)))] ([Blk.ob (loopK Tryd.prog 15 0 (endState Option.none) Option.none) [AV.p (PV.ps l.length 8 (encL l)), AV.junk, AV.p (PV.sc (Value.int IntKind.i64 0)), AV.mp 2 0, AV.junk, AV.p (PV.ps l.length 8 (encL l)), AV.fn (Fn.func 62) [] [AV.mp 1 0], AV.junk, AV.junk, AV.junk, AV.junk, AV.junk, AV.junk], Blk.pc [PV.ps l.length 8 (encL l)], Blk.pc [PV.sc (Value.int IntKind.i64 (bif false then Min.min n d else Max.max n d))], Blk.ob (ObK.gr 116 true) (List.map keepP cells), Blk.ac [AV.p (PV.ps xs.length 8 (encL xs)), AV.p (PV.sc (Value.int IntKind.i64 d))]]) 3 64))))))))
   (.at (bodyCfg Tryd.prog env 62 0 [AV.vy 0, AV.ms 3 0 k 2 Option.none] ([Blk.ob (loopK Tryd.prog 15 0 LoopState.ready Option.none) [AV.p (PV.ps l.length 8 (encL l)), AV.junk, AV.p (PV.sc (Value.int IntKind.i64 0)), AV.mp 2 0, AV.junk, AV.p (PV.ps l.length 8 (encL l)), AV.fn (Fn.func 62) [] [AV.mp 1 0], AV.junk, AV.junk, AV.junk, AV.junk, AV.junk, AV.junk], Blk.pc [PV.ps l.length 8 (encL l)], Blk.pc [PV.sc (Value.int IntKind.i64 n)], Blk.ob (ObK.gr 116 true) (List.map keepP cells)]) 3 64)))
theorem dinn_tree (l : List Ins) (n : Int) (cells : List AV) (k : Nat) (xs : List Ins) (d : Int) (i : Nat) (op : Int) (r : Int) (a : Int) (b : Int) (nn : Int) (tg : List Int) (ll : List Ins) (le : List Ins) (ok : Bool) : grow Tryd.prog env (dinnOrc l n cells k xs d i op r a b nn tg ll le ok) 1000000 true (bodyCfg Tryd.prog env 62 2 ([AV.vy 0, AV.ms 3 0 k 2 Option.none, AV.mp 4 0, aL xs, sI IntKind.i64 (↑xs.length : Int), sI IntKind.i64 (↑i : Int)]) (memd l n cells ++ [Blk.ac [aL xs, sI IntKind.i64 d]]) 3 64) dinnSc atEnd = dinnTree l n cells k xs d i op r a b nn tg ll le ok := by kernel_rfl


/-- How the memory is at the end. -/
noncomputable def find (l : List Ins) (n : Int) : Out := .ret (.tup []) [recd l .ready none, .pc [.ps l.length 8 (encL l)], .pc [sP n]]

section
variable (l : List Ins)

theorem d_inner (N : Nat) (ih : ∀ (st : InsS) (cells : List AV) (n : Nat), wS st < N → StkAt st cells → wS st ≤ bigN → (∀ e ∈ st, e.2 + numL e.1 ≤ bigN) →
      Am.Good Tryd.prog env (bodyCfg Tryd.prog env 62 0 [.vy 0, .ms 3 0 st.length 2 none] (memd l n cells) 3 64) (find l (max n (depS st) : Nat))) (xs : List Ins) (hxs : xs.length ≤ bigN) (d : Nat) :
    ∀ (r i : Nat) (st : InsS) (cells : List AV) (n : Nat), i + r = xs.length → wS st + 2 * numL (xs.drop i) < N → StkAt st cells → wS st + 2 * numL (xs.drop i) ≤ bigN → (∀ e ∈ st, e.2 + numL e.1 ≤ bigN) → d + numL (xs.drop i) ≤ bigN →
      Am.Good Tryd.prog env (bodyCfg Tryd.prog env 62 2 [.vy 0, .ms 3 0 st.length 2 none, .mp 4 0, aL xs, sI .i64 xs.length, sI .i64 i] (memd l n cells ++ [.ac [aL xs, sI .i64 d]]) 3 64) (find l (max n (depS (st ++ [(xs.drop i, d)])) : Nat)) := by
  intro r
  induction r with
  | zero =>
    intro i st cells n hi hN ht hw he hd
    have h1 : xs.drop i = [] := List.drop_eq_nil_of_le (by omega)
    rw [h1] at hN hw ⊢
    simp only [numL] at hN hw
    have ho := ih st (cells.map keepP) n (by omega) ht.keep (by omega) he
    refine good_of_tree names (dinn_tree l n cells st.length xs d i 0 0 0 0 0 [] [] [] true) ?_
    have h2 : ¬ ((i : Int) < xs.length) := by omega
    simp only [dinnTree, Tree.ok]
    refine ⟨fun h => absurd (by simpa using h) h2, fun _ => ?_⟩
    rw [show max n (depS (st ++ [([], d)])) = max n (depS st)  from by simp [depS_append, depL]]
    exact ho
  | succ r ihr =>
    intro i st cells n hi hN ht hw he hd
    have hkl : i < xs.length := by omega
    have hgx : xs[i]? = some xs[i] := List.getElem?_eq_getElem hkl
    have hdr : xs.drop i = xs[i] :: xs.drop (i + 1) := List.drop_eq_getElem_cons hkl
    rw [hdr] at hN hw hd ⊢
    generalize xs[i] = x at *
    generalize hys : xs.drop (i + 1) = ys at *
    obtain ⟨op, rs, a, b, nn, tg, ll, le⟩ := x
    obtain ⟨c0, c1, c2, c3, c4, c5, c6, c7⟩ := cells_at hgx
    have hbig : bigN = 1000000000000 := rfl
    have hlim : lim = 70368744177664 := rfl
    simp only [numL, numI] at hN hw hd
    have hsl := wS_length st
    have hcl := ht.len
    have w1 : IntKind.i64.wrap ((i : Int) + 1) = ((i + 1 : Nat) : Int) := by rw [i64In (by omega) (by omega)]; rfl
    have w2 : IntKind.i64.wrap ((d : Int) + 1) = ((d + 1 : Nat) : Int) := by rw [i64In (by omega) (by omega)]; rfl
    
    have hiI : (i : Int) < (xs.length : Int) := by omega
    have next : ∀ (s : InsS) (cs : List AV), StkAt (st ++ s) cs → wS s ≤ 2 * (numL ll + numL le) + 2 → numS s = numL ll + numL le → depS s = max (depL (d + 1) ll) (depL (d + 1) le) → (∀ e ∈ s, e.2 + numL e.1 ≤ bigN) →
        Am.Good Tryd.prog env (bodyCfg Tryd.prog env 62 2 [.vy 0, .ms 3 0 (st ++ s).length 2 none, .mp 4 0, aL xs, sI .i64 xs.length, sI .i64 (i + 1 : Nat)] (memd l (max n d : Nat) cs ++ [.ac [aL xs, sI .i64 d]]) 3 64) (find l (max n (depS (st ++ [(.mk op rs a b nn tg ll le :: ys, d)])) : Nat)) := by
      intro s cs hts hws hns hds hes
      have ho := ihr (i + 1) (st ++ s) cs (max n d) (by omega) (by rw [wS_append, hys]; omega) hts (by rw [wS_append, hys]; omega)
        (fun e hm => (List.mem_append.1 hm).elim (he e) (hes e)) (by rw [hys]; omega)
      rw [hys] at ho
      have e : max (max n d) (depS (st ++ s ++ [(ys, d)])) = max n (depS (st ++ [(.mk op rs a b nn tg ll le :: ys, d)])) := by
        simp only [depS_append, depS_one, hds, depL, depI]; omega
      exact e ▸ ho
    have tree := dinn_tree l n cells st.length xs d i op rs a b nn tg ll le true
    have mx : max (n : Int) (d : Int) = ((max n d : Nat) : Int) := by omega
    have nl : ∀ z : List Ins, z ≠ [] → 0 < (z.length : Int) := fun z hz => by have := List.length_pos_iff.2 hz; omega
    by_cases hll : ll = []
    · by_cases hle : le = []
      · subst hll; subst hle
        have ho := next [] (cells.map keepP) (by rw [List.append_nil]; exact ht.keep) (by simp [wS, numL]) (by simp [numS, numL]) (by simp [depS, depL]) (fun _ h => by cases h)
        refine good_of_tree names tree ?_
        simp only [dinnTree, Tree.ok, Int.toNat_natCast, Nat.add_assoc, Nat.reduceAdd, c0, c1, c2, c3, c4, c5, c6, c7, isInt, isPs, pvInt, psLen, psSz, psCells, inB, w1, w2, cond_false, mx]
        rw [List.append_nil] at ho
        exact ⟨fun _ => ⟨by simp [hiI], by simp, rfl, ⟨fun h => (by simp at h), fun _ => ⟨fun h => (by simp at h), fun _ => ⟨(by trivial), ho⟩⟩⟩⟩, fun h => absurd hiI (by simpa using h)⟩
      · subst hll
        have nle := nl le hle
        have ho := next [(le, d + 1)] _ (ht.push le (d + 1)).keep (by simp [numL]) (by simp [numL]) (by simp [depL]) (fun e h => by simp only [List.mem_singleton] at h; subst h; simp only; omega)
        refine good_of_tree names tree ?_
        simp only [dinnTree, Tree.ok, Int.toNat_natCast, Nat.add_assoc, Nat.reduceAdd, c0, c1, c2, c3, c4, c5, c6, c7, isInt, isPs, pvInt, psLen, psSz, psCells, inB, w1, w2, cond_false, mx]
        rw [List.length_append] at ho
        exact ⟨fun _ => ⟨by simp [hiI], by simp, rfl, ⟨fun h => (by simp at h), fun _ => ⟨fun _ => ⟨rfl, (by simp; omega), (by trivial), ho⟩, fun h => absurd nle (by simpa using h)⟩⟩⟩, fun h => absurd hiI (by simpa using h)⟩
    · have nll := nl ll hll
      by_cases hle : le = []
      · subst hle
        have ho := next [(ll, d + 1)] _ (ht.push ll (d + 1)).keep (by simp [numL]) (by simp [numL]) (by simp [depL]) (fun e h => by simp only [List.mem_singleton] at h; subst h; simp only; omega)
        refine good_of_tree names tree ?_
        simp only [dinnTree, Tree.ok, Int.toNat_natCast, Nat.add_assoc, Nat.reduceAdd, c0, c1, c2, c3, c4, c5, c6, c7, isInt, isPs, pvInt, psLen, psSz, psCells, inB, w1, w2, cond_false, mx]
        rw [List.length_append] at ho
        exact ⟨fun _ => ⟨by simp [hiI], by simp, rfl, ⟨fun _ => ⟨rfl, (by simp; omega), fun h => (by simp at h), fun _ => ⟨(by trivial), ho⟩⟩, fun h => absurd nll (by simpa using h)⟩⟩, fun h => absurd hiI (by simpa using h)⟩
      · have nle := nl le hle
        have hp2 := (ht.push ll (d + 1)).push le (d + 1)
        rw [List.append_assoc] at hp2
        have ho := next [(ll, d + 1), (le, d + 1)] _ hp2.keep (by simp [wS]; omega) (by simp [numS]) (by simp [depS]) (fun e h => by simp only [List.mem_cons, List.not_mem_nil, or_false] at h; rcases h with rfl | rfl <;> simp only <;> omega)
        refine good_of_tree names tree ?_
        simp only [dinnTree, Tree.ok, Int.toNat_natCast, Nat.add_assoc, Nat.reduceAdd, c0, c1, c2, c3, c4, c5, c6, c7, isInt, isPs, pvInt, psLen, psSz, psCells, inB, w1, w2, cond_false, mx]
        simp only [List.length_append, List.length_cons, List.length_nil, Nat.reduceAdd] at ho
        exact ⟨fun _ => ⟨by simp [hiI], by simp, rfl, ⟨fun _ => ⟨rfl, (by simp; omega), fun _ => ⟨rfl, (by simp; omega), (by trivial), ho⟩, fun h => absurd nle (by simpa using h)⟩, fun h => absurd nll (by simpa using h)⟩⟩, fun h => absurd hiI (by simpa using h)⟩

theorem d_outer : ∀ (N : Nat) (st : InsS) (cells : List AV) (n : Nat), wS st < N → StkAt st cells → wS st ≤ bigN → (∀ e ∈ st, e.2 + numL e.1 ≤ bigN) →
      Am.Good Tryd.prog env (bodyCfg Tryd.prog env 62 0 [.vy 0, .ms 3 0 st.length 2 none] (memd l n cells) 3 64) (find l (max n (depS st) : Nat))
  | 0, _, _, _, h, _, _, _ => by omega
  | N + 1, st, cells, n, hN, ht, hw, he => by
    rcases List.eq_nil_or_concat st with rfl | ⟨s, ⟨x, d⟩, rfl⟩
    · refine good_of_tree names (doue_tree l n cells) ?_
      have e : max n (depS ([] : InsS)) = n := by simp [depS]
      rw [e]; rfl
    · rw [List.concat_eq_append] at *
      have hx := he (x, d) (by simp)
      rw [wS_append, wS_one] at hN hw
      obtain ⟨t0, t1⟩ := ht.top
      have hcl := ht.len
      have hsl := wS_length s
      have hbig : bigN = 1000000000000 := rfl
      have hnx := numL_length x
      simp only [List.length_append, List.length_cons, List.length_nil] at hcl hx
      have ho := d_inner l N (fun st cells n => d_outer N st cells n) x (by omega) d x.length 0 s (cells.map keepP) n (by omega) (by rw [List.drop_zero]; omega) ht.pop.keep (by rw [List.drop_zero]; omega)
        (fun e hm => he e (List.mem_append_left _ hm)) (by rw [List.drop_zero]; omega)
      rw [List.drop_zero] at ho
      have w1 : IntKind.i64.wrap (((s.length + 1 : Nat) : Int) - 1) = (s.length : Int) := by rw [i64In (by omega) (by omega)]; omega
      rw [List.length_append, List.length_singleton]
      refine good_of_tree names (dout_tree l n cells s.length x d) ?_
      simp only [doutTree, Tree.ok, Int.toNat_natCast, Nat.zero_add, t0, t1, normA, normP, w1, isInt, isPs, pvInt, psLen, psSz, psCells, inB, Nat.sub_zero]
      exact ⟨fun _ => ⟨(by trivial), (by simp; omega), (by simp; omega), (by trivial), (by trivial), (by simp), ho⟩, fun h => absurd h (by simp)⟩
end
end Go.Proofs.YtjjloibfhgofcaaDoor.N
