/-
  The program of the law, a machine that does it.
-/
import Derived.Test.YtiphaojaolcidaaDoorLsA
import Derived.Test.YtiphaojaolcidaaDoorAm26
import Derived.Test.YtiphaojaolcidaaDoorAm22
namespace Go.Proofs.YtiphaojaolcidaaDoor.N
open Go Go.Am

/-- The law's functions. -/
def fns : List PV := [.sc (.int .i64 0), .sc (.int .i64 0), .ps 0 0 [], .sc (.int .i64 1), .sc (.int .i64 1), .ps 1 6 [.sc (.int .i64 5), .sc (.int .i64 0), .sc (.int .i64 0), .ps 1 3 [.sc (.int .i64 2), .sc (.int .i64 0), .ps 0 0 []], .ps 2 6 [.sc (.int .i64 10), .sc (.int .i64 1), .sc (.int .i64 1), .ps 1 3 [.sc (.int .i64 7), .sc (.int .i64 107), .ps 2 3 [.sc (.int .i64 2), .sc (.int .i64 0), .ps 0 0 [], .sc (.int .i64 1), .sc (.int .i64 1), .ps 0 0 []]], .ps 0 0 [], .ps 0 0 [], .sc (.int .i64 9), .sc (.int .i64 0), .sc (.int .i64 0), .ps 1 3 [.sc (.int .i64 7), .sc (.int .i64 106), .ps 2 3 [.sc (.int .i64 2), .sc (.int .i64 0), .ps 0 0 [], .sc (.int .i64 2), .sc (.int .i64 1), .ps 0 0 []]], .ps 0 0 [], .ps 0 0 []], .ps 0 0 []], .sc (.int .i64 1), .sc (.int .i64 1), .ps 1 6 [.sc (.int .i64 6), .sc (.int .i64 0), .sc (.int .i64 0), .ps 0 0 [], .ps 3 6 [.sc (.int .i64 5), .sc (.int .i64 0), .sc (.int .i64 0), .ps 1 3 [.sc (.int .i64 2), .sc (.int .i64 0), .ps 0 0 []], .ps 0 0 [], .ps 1 1 [.ps 1 6 [.sc (.int .i64 9), .sc (.int .i64 0), .sc (.int .i64 0), .ps 1 3 [.sc (.int .i64 2), .sc (.int .i64 1), .ps 0 0 []], .ps 0 0 [], .ps 0 0 []]], .sc (.int .i64 1), .sc (.int .i64 1), .sc (.int .i64 0), .ps 1 3 [.sc (.int .i64 7), .sc (.int .i64 106), .ps 2 3 [.sc (.int .i64 2), .sc (.int .i64 1), .ps 0 0 [], .sc (.int .i64 2), .sc (.int .i64 0), .ps 0 0 []]], .ps 0 0 [], .ps 0 0 [], .sc (.int .i64 1), .sc (.int .i64 0), .sc (.int .i64 0), .ps 1 3 [.sc (.int .i64 7), .sc (.int .i64 107), .ps 2 3 [.sc (.int .i64 2), .sc (.int .i64 0), .ps 0 0 [], .sc (.int .i64 1), .sc (.int .i64 1), .ps 0 0 []]], .ps 0 0 [], .ps 0 0 []], .ps 0 0 []]]

/-- The loop's list. -/
def lps : List PV := [.sc (.int .i64 5), .sc (.int .i64 0), .sc (.int .i64 0), .ps 1 3 [.sc (.int .i64 2), .sc (.int .i64 0), .ps 0 0 []], .ps 0 0 [], .ps 1 1 [.ps 1 6 [.sc (.int .i64 9), .sc (.int .i64 0), .sc (.int .i64 0), .ps 1 3 [.sc (.int .i64 2), .sc (.int .i64 1), .ps 0 0 []], .ps 0 0 [], .ps 0 0 []]], .sc (.int .i64 1), .sc (.int .i64 1), .sc (.int .i64 0), .ps 1 3 [.sc (.int .i64 7), .sc (.int .i64 106), .ps 2 3 [.sc (.int .i64 2), .sc (.int .i64 1), .ps 0 0 [], .sc (.int .i64 2), .sc (.int .i64 0), .ps 0 0 []]], .ps 0 0 [], .ps 0 0 [], .sc (.int .i64 1), .sc (.int .i64 0), .sc (.int .i64 0), .ps 1 3 [.sc (.int .i64 7), .sc (.int .i64 107), .ps 2 3 [.sc (.int .i64 2), .sc (.int .i64 0), .ps 0 0 [], .sc (.int .i64 1), .sc (.int .i64 1), .ps 0 0 []]], .ps 0 0 [], .ps 0 0 []]

/-- A machine: its memory's address, the steps done and left, calls in one another, what was told. -/
abbrev mach (a : AV) (S L D T : Int) : Blk := .ac [.os none 3 3 fns, .os none 0 0 [], .os none 0 0 [], .p (.sc (.int .i64 4)), .p (.sc (.int .i64 0)), a, .os none 0 0 [], .os none 0 0 [], .p (.sc (.int .i64 0)), .p (.sc (.int .i64 0)), .p (.sc (.int .i64 0)), .p (.sc (.int .i64 S)), .os none 0 0 [], .p (.sc (.int .i64 L)), .p (.sc (.int .i64 D)), .p (.sc (.int .u32 T)), .p (.sc (.int .i64 0))]

abbrev memS (b : Nat) : Blk := .ac [.vm b, .p (.sc (.int .u32 4)), .p (.sc (.int .u32 65536))]

/-- Where the call is handed a list with room; where not. -/
abbrev mB (S L D T : Int) : Mem := [mach (.mp 2 0) S L D T, .tok, memS 3, .ob (.map [] [] 0) []]
abbrev mA (S L D T : Int) : Mem := [mach (.mp 1 0) S L D T, memS 2, .ob (.map [] [] 0) []]
abbrev aB (f n : Int) : List AV := [.mp 0 0, sI .i64 f, .os (some 1) 1 1 [.sc (.int .u32 n)]]
abbrev aA (f n : Int) : List AV := [.mp 0 0, sI .i64 f, .os none 1 1 [.sc (.int .u32 n)]]

/-- Where 'calls' is called: the own words stand beside. -/
abbrev mC (S L D T x y : Int) : Mem := [mach (.mp 3 0) S L D T, .tok, .pc [.sc (.int .u32 x), .sc (.int .u32 y)], memS 4, .ob (.map [] [] 0) []]
abbrev aC (f n : Int) : List AV := [.mp 0 0, sI .i64 f, .os (some 1) 1 1 [.sc (.int .u32 n)], .mp 2 1]

/-- Where the loop is. -/
abbrev mL (S L D T x y : Int) : Mem := [mach (.mp 2 0) S L D T, .pc [.sc (.int .u32 x), .sc (.int .u32 y)], memS 3, .ob (.map [] [] 0) []]
abbrev aL : List AV := [.mp 0 0, .p (.ps 3 6 lps), .ms 1 0 2 1 (some 2)]
def noC (_ : FuncId) (_ : List AV) (_ : Mem) : Option (AV × Mem) := none

end Go.Proofs.YtiphaojaolcidaaDoor.N
