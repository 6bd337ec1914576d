/-
  NumOnes: the law, for every operation.
-/
import Derived.Test.YthllpmannpolcaaDoorOnesC
namespace Go.Proofs.YthllpmannpolcaaDoor.N
open Go Go.Am

theorem lawBad_tree0 (a : Int) : growF Tryd.prog tabEnv lawBadOrc 1000000 3 [.p (.sc (.int .i64 0)), .p (.sc (.int .u32 a))] [] lawBadSc = lawBadTree a := by kernel_rfl
theorem lawBad_tree1 (a : Int) : growF Tryd.prog tabEnv lawBadOrc 1000000 3 [.p (.sc (.int .i64 1)), .p (.sc (.int .u32 a))] [] lawBadSc = lawBadTree a := by kernel_rfl
theorem lawBad_tree2 (a : Int) : growF Tryd.prog tabEnv lawBadOrc 1000000 3 [.p (.sc (.int .i64 2)), .p (.sc (.int .u32 a))] [] lawBadSc = lawBadTree a := by kernel_rfl
theorem lawBad_tree3 (a : Int) : growF Tryd.prog tabEnv lawBadOrc 1000000 3 [.p (.sc (.int .i64 3)), .p (.sc (.int .u32 a))] [] lawBadSc = lawBadTree a := by kernel_rfl
theorem lawBad_tree4 (a : Int) : growF Tryd.prog tabEnv lawBadOrc 1000000 3 [.p (.sc (.int .i64 4)), .p (.sc (.int .u32 a))] [] lawBadSc = lawBadTree a := by kernel_rfl
theorem lawBad_tree5 (a : Int) : growF Tryd.prog tabEnv lawBadOrc 1000000 3 [.p (.sc (.int .i64 5)), .p (.sc (.int .u32 a))] [] lawBadSc = lawBadTree a := by kernel_rfl
theorem lawBad_tree6 (a : Int) : growF Tryd.prog tabEnv lawBadOrc 1000000 3 [.p (.sc (.int .i64 6)), .p (.sc (.int .u32 a))] [] lawBadSc = lawBadTree a := by kernel_rfl
theorem lawBad_tree7 (a : Int) : growF Tryd.prog tabEnv lawBadOrc 1000000 3 [.p (.sc (.int .i64 7)), .p (.sc (.int .u32 a))] [] lawBadSc = lawBadTree a := by kernel_rfl
theorem lawBad_tree8 (a : Int) : growF Tryd.prog tabEnv lawBadOrc 1000000 3 [.p (.sc (.int .i64 8)), .p (.sc (.int .u32 a))] [] lawBadSc = lawBadTree a := by kernel_rfl
theorem lawBad_tree9 (a : Int) : growF Tryd.prog tabEnv lawBadOrc 1000000 3 [.p (.sc (.int .i64 9)), .p (.sc (.int .u32 a))] [] lawBadSc = lawBadTree a := by kernel_rfl
theorem lawBad_tree10 (a : Int) : growF Tryd.prog tabEnv lawBadOrc 1000000 3 [.p (.sc (.int .i64 10)), .p (.sc (.int .u32 a))] [] lawBadSc = lawBadTree a := by kernel_rfl
theorem lawBad_tree11 (a : Int) : growF Tryd.prog tabEnv lawBadOrc 1000000 3 [.p (.sc (.int .i64 11)), .p (.sc (.int .u32 a))] [] lawBadSc = lawBadTree a := by kernel_rfl
theorem lawBad_tree12 (a : Int) : growF Tryd.prog tabEnv lawBadOrc 1000000 3 [.p (.sc (.int .i64 12)), .p (.sc (.int .u32 a))] [] lawBadSc = lawBadTree a := by kernel_rfl
theorem lawBad_tree13 (a : Int) : growF Tryd.prog tabEnv lawBadOrc 1000000 3 [.p (.sc (.int .i64 13)), .p (.sc (.int .u32 a))] [] lawBadSc = lawBadTree a := by kernel_rfl
theorem lawBad_tree14 (a : Int) : growF Tryd.prog tabEnv lawBadOrc 1000000 3 [.p (.sc (.int .i64 14)), .p (.sc (.int .u32 a))] [] lawBadSc = lawBadTree a := by kernel_rfl
theorem lawBad_tree15 (a : Int) : growF Tryd.prog tabEnv lawBadOrc 1000000 3 [.p (.sc (.int .i64 15)), .p (.sc (.int .u32 a))] [] lawBadSc = lawBadTree a := by kernel_rfl
theorem lawBad_tree16 (a : Int) : growF Tryd.prog tabEnv lawBadOrc 1000000 3 [.p (.sc (.int .i64 16)), .p (.sc (.int .u32 a))] [] lawBadSc = lawBadTree a := by kernel_rfl
theorem lawBad_tree17 (a : Int) : growF Tryd.prog tabEnv lawBadOrc 1000000 3 [.p (.sc (.int .i64 17)), .p (.sc (.int .u32 a))] [] lawBadSc = lawBadTree a := by kernel_rfl
theorem lawBad_tree18 (a : Int) : growF Tryd.prog tabEnv lawBadOrc 1000000 3 [.p (.sc (.int .i64 18)), .p (.sc (.int .u32 a))] [] lawBadSc = lawBadTree a := by kernel_rfl
theorem lawBad_tree19 (a : Int) : growF Tryd.prog tabEnv lawBadOrc 1000000 3 [.p (.sc (.int .i64 19)), .p (.sc (.int .u32 a))] [] lawBadSc = lawBadTree a := by kernel_rfl
theorem lawBad_tree20 (a : Int) : growF Tryd.prog tabEnv lawBadOrc 1000000 3 [.p (.sc (.int .i64 20)), .p (.sc (.int .u32 a))] [] lawBadSc = lawBadTree a := by kernel_rfl
theorem lawBad_tree21 (a : Int) : growF Tryd.prog tabEnv lawBadOrc 1000000 3 [.p (.sc (.int .i64 21)), .p (.sc (.int .u32 a))] [] lawBadSc = lawBadTree a := by kernel_rfl
theorem lawBad_tree22 (a : Int) : growF Tryd.prog tabEnv lawBadOrc 1000000 3 [.p (.sc (.int .i64 22)), .p (.sc (.int .u32 a))] [] lawBadSc = lawBadTree a := by kernel_rfl
theorem lawBad_tree23 (a : Int) : growF Tryd.prog tabEnv lawBadOrc 1000000 3 [.p (.sc (.int .i64 23)), .p (.sc (.int .u32 a))] [] lawBadSc = lawBadTree a := by kernel_rfl
theorem lawBad_tree24 (a : Int) : growF Tryd.prog tabEnv lawBadOrc 1000000 3 [.p (.sc (.int .i64 24)), .p (.sc (.int .u32 a))] [] lawBadSc = lawBadTree a := by kernel_rfl
theorem lawBad_tree25 (a : Int) : growF Tryd.prog tabEnv lawBadOrc 1000000 3 [.p (.sc (.int .i64 25)), .p (.sc (.int .u32 a))] [] lawBadSc = lawBadTree a := by kernel_rfl
theorem lawBad_tree26 (a : Int) : growF Tryd.prog tabEnv lawBadOrc 1000000 3 [.p (.sc (.int .i64 26)), .p (.sc (.int .u32 a))] [] lawBadSc = lawBadTree a := by kernel_rfl
theorem lawBad_tree27 (a : Int) : growF Tryd.prog tabEnv lawBadOrc 1000000 3 [.p (.sc (.int .i64 27)), .p (.sc (.int .u32 a))] [] lawBadSc = lawBadTree a := by kernel_rfl
theorem lawBad_tree28 (a : Int) : growF Tryd.prog tabEnv lawBadOrc 1000000 3 [.p (.sc (.int .i64 28)), .p (.sc (.int .u32 a))] [] lawBadSc = lawBadTree a := by kernel_rfl
theorem lawBad_tree29 (a : Int) : growF Tryd.prog tabEnv lawBadOrc 1000000 3 [.p (.sc (.int .i64 29)), .p (.sc (.int .u32 a))] [] lawBadSc = lawBadTree a := by kernel_rfl
theorem lawBad_tree30 (a : Int) : growF Tryd.prog tabEnv lawBadOrc 1000000 3 [.p (.sc (.int .i64 30)), .p (.sc (.int .u32 a))] [] lawBadSc = lawBadTree a := by kernel_rfl
theorem lawBad_tree31 (a : Int) : growF Tryd.prog tabEnv lawBadOrc 1000000 3 [.p (.sc (.int .i64 31)), .p (.sc (.int .u32 a))] [] lawBadSc = lawBadTree a := by kernel_rfl
theorem lawBad_tree32 (a : Int) : growF Tryd.prog tabEnv lawBadOrc 1000000 3 [.p (.sc (.int .i64 32)), .p (.sc (.int .u32 a))] [] lawBadSc = lawBadTree a := by kernel_rfl
theorem lawBad_tree33 (a : Int) : growF Tryd.prog tabEnv lawBadOrc 1000000 3 [.p (.sc (.int .i64 33)), .p (.sc (.int .u32 a))] [] lawBadSc = lawBadTree a := by kernel_rfl
theorem lawBad_tree34 (a : Int) : growF Tryd.prog tabEnv lawBadOrc 1000000 3 [.p (.sc (.int .i64 34)), .p (.sc (.int .u32 a))] [] lawBadSc = lawBadTree a := by kernel_rfl
theorem lawBad_tree35 (a : Int) : growF Tryd.prog tabEnv lawBadOrc 1000000 3 [.p (.sc (.int .i64 35)), .p (.sc (.int .u32 a))] [] lawBadSc = lawBadTree a := by kernel_rfl
theorem lawBad_tree36 (a : Int) : growF Tryd.prog tabEnv lawBadOrc 1000000 3 [.p (.sc (.int .i64 36)), .p (.sc (.int .u32 a))] [] lawBadSc = lawBadTree a := by kernel_rfl
theorem lawBad_tree37 (a : Int) : growF Tryd.prog tabEnv lawBadOrc 1000000 3 [.p (.sc (.int .i64 37)), .p (.sc (.int .u32 a))] [] lawBadSc = lawBadTree a := by kernel_rfl
theorem lawBad_tree38 (a : Int) : growF Tryd.prog tabEnv lawBadOrc 1000000 3 [.p (.sc (.int .i64 38)), .p (.sc (.int .u32 a))] [] lawBadSc = lawBadTree a := by kernel_rfl
theorem lawBad_tree39 (a : Int) : growF Tryd.prog tabEnv lawBadOrc 1000000 3 [.p (.sc (.int .i64 39)), .p (.sc (.int .u32 a))] [] lawBadSc = lawBadTree a := by kernel_rfl
theorem lawBad_tree40 (a : Int) : growF Tryd.prog tabEnv lawBadOrc 1000000 3 [.p (.sc (.int .i64 40)), .p (.sc (.int .u32 a))] [] lawBadSc = lawBadTree a := by kernel_rfl
theorem lawBad_tree41 (a : Int) : growF Tryd.prog tabEnv lawBadOrc 1000000 3 [.p (.sc (.int .i64 41)), .p (.sc (.int .u32 a))] [] lawBadSc = lawBadTree a := by kernel_rfl
theorem lawBad_tree42 (a : Int) : growF Tryd.prog tabEnv lawBadOrc 1000000 3 [.p (.sc (.int .i64 42)), .p (.sc (.int .u32 a))] [] lawBadSc = lawBadTree a := by kernel_rfl
theorem lawBad_tree43 (a : Int) : growF Tryd.prog tabEnv lawBadOrc 1000000 3 [.p (.sc (.int .i64 43)), .p (.sc (.int .u32 a))] [] lawBadSc = lawBadTree a := by kernel_rfl
theorem lawBad_tree44 (a : Int) : growF Tryd.prog tabEnv lawBadOrc 1000000 3 [.p (.sc (.int .i64 44)), .p (.sc (.int .u32 a))] [] lawBadSc = lawBadTree a := by kernel_rfl
theorem lawBad_tree45 (a : Int) : growF Tryd.prog tabEnv lawBadOrc 1000000 3 [.p (.sc (.int .i64 45)), .p (.sc (.int .u32 a))] [] lawBadSc = lawBadTree a := by kernel_rfl
theorem lawBad_tree46 (a : Int) : growF Tryd.prog tabEnv lawBadOrc 1000000 3 [.p (.sc (.int .i64 46)), .p (.sc (.int .u32 a))] [] lawBadSc = lawBadTree a := by kernel_rfl
theorem lawBad_tree47 (a : Int) : growF Tryd.prog tabEnv lawBadOrc 1000000 3 [.p (.sc (.int .i64 47)), .p (.sc (.int .u32 a))] [] lawBadSc = lawBadTree a := by kernel_rfl
theorem lawBad_tree48 (a : Int) : growF Tryd.prog tabEnv lawBadOrc 1000000 3 [.p (.sc (.int .i64 48)), .p (.sc (.int .u32 a))] [] lawBadSc = lawBadTree a := by kernel_rfl
theorem lawBad_tree49 (a : Int) : growF Tryd.prog tabEnv lawBadOrc 1000000 3 [.p (.sc (.int .i64 49)), .p (.sc (.int .u32 a))] [] lawBadSc = lawBadTree a := by kernel_rfl
theorem lawBad_tree50 (a : Int) : growF Tryd.prog tabEnv lawBadOrc 1000000 3 [.p (.sc (.int .i64 50)), .p (.sc (.int .u32 a))] [] lawBadSc = lawBadTree a := by kernel_rfl
theorem lawBad_tree51 (a : Int) : growF Tryd.prog tabEnv lawBadOrc 1000000 3 [.p (.sc (.int .i64 51)), .p (.sc (.int .u32 a))] [] lawBadSc = lawBadTree a := by kernel_rfl
theorem lawBad_tree52 (a : Int) : growF Tryd.prog tabEnv lawBadOrc 1000000 3 [.p (.sc (.int .i64 52)), .p (.sc (.int .u32 a))] [] lawBadSc = lawBadTree a := by kernel_rfl
theorem lawBad_tree53 (a : Int) : growF Tryd.prog tabEnv lawBadOrc 1000000 3 [.p (.sc (.int .i64 53)), .p (.sc (.int .u32 a))] [] lawBadSc = lawBadTree a := by kernel_rfl
theorem lawBad_tree54 (a : Int) : growF Tryd.prog tabEnv lawBadOrc 1000000 3 [.p (.sc (.int .i64 54)), .p (.sc (.int .u32 a))] [] lawBadSc = lawBadTree a := by kernel_rfl
theorem lawBad_tree55 (a : Int) : growF Tryd.prog tabEnv lawBadOrc 1000000 3 [.p (.sc (.int .i64 55)), .p (.sc (.int .u32 a))] [] lawBadSc = lawBadTree a := by kernel_rfl
theorem lawBad_tree56 (a : Int) : growF Tryd.prog tabEnv lawBadOrc 1000000 3 [.p (.sc (.int .i64 56)), .p (.sc (.int .u32 a))] [] lawBadSc = lawBadTree a := by kernel_rfl
theorem lawBad_tree57 (a : Int) : growF Tryd.prog tabEnv lawBadOrc 1000000 3 [.p (.sc (.int .i64 57)), .p (.sc (.int .u32 a))] [] lawBadSc = lawBadTree a := by kernel_rfl
theorem lawBad_tree58 (a : Int) : growF Tryd.prog tabEnv lawBadOrc 1000000 3 [.p (.sc (.int .i64 58)), .p (.sc (.int .u32 a))] [] lawBadSc = lawBadTree a := by kernel_rfl
theorem lawBad_tree59 (a : Int) : growF Tryd.prog tabEnv lawBadOrc 1000000 3 [.p (.sc (.int .i64 59)), .p (.sc (.int .u32 a))] [] lawBadSc = lawBadTree a := by kernel_rfl
theorem lawBad_tree60 (a : Int) : growF Tryd.prog tabEnv lawBadOrc 1000000 3 [.p (.sc (.int .i64 60)), .p (.sc (.int .u32 a))] [] lawBadSc = lawBadTree a := by kernel_rfl
theorem lawBad_tree61 (a : Int) : growF Tryd.prog tabEnv lawBadOrc 1000000 3 [.p (.sc (.int .i64 61)), .p (.sc (.int .u32 a))] [] lawBadSc = lawBadTree a := by kernel_rfl
theorem lawBad_tree62 (a : Int) : growF Tryd.prog tabEnv lawBadOrc 1000000 3 [.p (.sc (.int .i64 62)), .p (.sc (.int .u32 a))] [] lawBadSc = lawBadTree a := by kernel_rfl
theorem lawBad_tree63 (a : Int) : growF Tryd.prog tabEnv lawBadOrc 1000000 3 [.p (.sc (.int .i64 63)), .p (.sc (.int .u32 a))] [] lawBadSc = lawBadTree a := by kernel_rfl
theorem lawBad_tree64 (a : Int) : growF Tryd.prog tabEnv lawBadOrc 1000000 3 [.p (.sc (.int .i64 64)), .p (.sc (.int .u32 a))] [] lawBadSc = lawBadTree a := by kernel_rfl
theorem lawBad_tree65 (a : Int) : growF Tryd.prog tabEnv lawBadOrc 1000000 3 [.p (.sc (.int .i64 65)), .p (.sc (.int .u32 a))] [] lawBadSc = lawBadTree a := by kernel_rfl
theorem lawBad_tree66 (a : Int) : growF Tryd.prog tabEnv lawBadOrc 1000000 3 [.p (.sc (.int .i64 66)), .p (.sc (.int .u32 a))] [] lawBadSc = lawBadTree a := by kernel_rfl
theorem lawBad_tree67 (a : Int) : growF Tryd.prog tabEnv lawBadOrc 1000000 3 [.p (.sc (.int .i64 67)), .p (.sc (.int .u32 a))] [] lawBadSc = lawBadTree a := by kernel_rfl
theorem lawBad_tree68 (a : Int) : growF Tryd.prog tabEnv lawBadOrc 1000000 3 [.p (.sc (.int .i64 68)), .p (.sc (.int .u32 a))] [] lawBadSc = lawBadTree a := by kernel_rfl
theorem lawBad_tree70 (a : Int) : growF Tryd.prog tabEnv lawBadOrc 1000000 3 [.p (.sc (.int .i64 70)), .p (.sc (.int .u32 a))] [] lawBadSc = lawBadTree a := by kernel_rfl
theorem lawBad_tree71 (a : Int) : growF Tryd.prog tabEnv lawBadOrc 1000000 3 [.p (.sc (.int .i64 71)), .p (.sc (.int .u32 a))] [] lawBadSc = lawBadTree a := by kernel_rfl
theorem lawBad_tree72 (a : Int) : growF Tryd.prog tabEnv lawBadOrc 1000000 3 [.p (.sc (.int .i64 72)), .p (.sc (.int .u32 a))] [] lawBadSc = lawBadTree a := by kernel_rfl
theorem lawBad_tree73 (a : Int) : growF Tryd.prog tabEnv lawBadOrc 1000000 3 [.p (.sc (.int .i64 73)), .p (.sc (.int .u32 a))] [] lawBadSc = lawBadTree a := by kernel_rfl
theorem lawBad_tree74 (a : Int) : growF Tryd.prog tabEnv lawBadOrc 1000000 3 [.p (.sc (.int .i64 74)), .p (.sc (.int .u32 a))] [] lawBadSc = lawBadTree a := by kernel_rfl
theorem lawBad_tree75 (a : Int) : growF Tryd.prog tabEnv lawBadOrc 1000000 3 [.p (.sc (.int .i64 75)), .p (.sc (.int .u32 a))] [] lawBadSc = lawBadTree a := by kernel_rfl
theorem lawBad_tree76 (a : Int) : growF Tryd.prog tabEnv lawBadOrc 1000000 3 [.p (.sc (.int .i64 76)), .p (.sc (.int .u32 a))] [] lawBadSc = lawBadTree a := by kernel_rfl
theorem lawBad_tree77 (a : Int) : growF Tryd.prog tabEnv lawBadOrc 1000000 3 [.p (.sc (.int .i64 77)), .p (.sc (.int .u32 a))] [] lawBadSc = lawBadTree a := by kernel_rfl
theorem lawBad_tree78 (a : Int) : growF Tryd.prog tabEnv lawBadOrc 1000000 3 [.p (.sc (.int .i64 78)), .p (.sc (.int .u32 a))] [] lawBadSc = lawBadTree a := by kernel_rfl
theorem lawBad_tree79 (a : Int) : growF Tryd.prog tabEnv lawBadOrc 1000000 3 [.p (.sc (.int .i64 79)), .p (.sc (.int .u32 a))] [] lawBadSc = lawBadTree a := by kernel_rfl
theorem lawBad_tree80 (a : Int) : growF Tryd.prog tabEnv lawBadOrc 1000000 3 [.p (.sc (.int .i64 80)), .p (.sc (.int .u32 a))] [] lawBadSc = lawBadTree a := by kernel_rfl
theorem lawBad_tree81 (a : Int) : growF Tryd.prog tabEnv lawBadOrc 1000000 3 [.p (.sc (.int .i64 81)), .p (.sc (.int .u32 a))] [] lawBadSc = lawBadTree a := by kernel_rfl
theorem lawBad_tree82 (a : Int) : growF Tryd.prog tabEnv lawBadOrc 1000000 3 [.p (.sc (.int .i64 82)), .p (.sc (.int .u32 a))] [] lawBadSc = lawBadTree a := by kernel_rfl
theorem lawBad_tree83 (a : Int) : growF Tryd.prog tabEnv lawBadOrc 1000000 3 [.p (.sc (.int .i64 83)), .p (.sc (.int .u32 a))] [] lawBadSc = lawBadTree a := by kernel_rfl
theorem lawBad_tree84 (a : Int) : growF Tryd.prog tabEnv lawBadOrc 1000000 3 [.p (.sc (.int .i64 84)), .p (.sc (.int .u32 a))] [] lawBadSc = lawBadTree a := by kernel_rfl
theorem lawBad_tree85 (a : Int) : growF Tryd.prog tabEnv lawBadOrc 1000000 3 [.p (.sc (.int .i64 85)), .p (.sc (.int .u32 a))] [] lawBadSc = lawBadTree a := by kernel_rfl
theorem lawBad_tree86 (a : Int) : growF Tryd.prog tabEnv lawBadOrc 1000000 3 [.p (.sc (.int .i64 86)), .p (.sc (.int .u32 a))] [] lawBadSc = lawBadTree a := by kernel_rfl
theorem lawBad_tree87 (a : Int) : growF Tryd.prog tabEnv lawBadOrc 1000000 3 [.p (.sc (.int .i64 87)), .p (.sc (.int .u32 a))] [] lawBadSc = lawBadTree a := by kernel_rfl
theorem lawBad_tree88 (a : Int) : growF Tryd.prog tabEnv lawBadOrc 1000000 3 [.p (.sc (.int .i64 88)), .p (.sc (.int .u32 a))] [] lawBadSc = lawBadTree a := by kernel_rfl
theorem lawBad_tree89 (a : Int) : growF Tryd.prog tabEnv lawBadOrc 1000000 3 [.p (.sc (.int .i64 89)), .p (.sc (.int .u32 a))] [] lawBadSc = lawBadTree a := by kernel_rfl
theorem lawBad_tree90 (a : Int) : growF Tryd.prog tabEnv lawBadOrc 1000000 3 [.p (.sc (.int .i64 90)), .p (.sc (.int .u32 a))] [] lawBadSc = lawBadTree a := by kernel_rfl
theorem lawBad_tree91 (a : Int) : growF Tryd.prog tabEnv lawBadOrc 1000000 3 [.p (.sc (.int .i64 91)), .p (.sc (.int .u32 a))] [] lawBadSc = lawBadTree a := by kernel_rfl
theorem lawBad_tree92 (a : Int) : growF Tryd.prog tabEnv lawBadOrc 1000000 3 [.p (.sc (.int .i64 92)), .p (.sc (.int .u32 a))] [] lawBadSc = lawBadTree a := by kernel_rfl
theorem lawBad_tree93 (a : Int) : growF Tryd.prog tabEnv lawBadOrc 1000000 3 [.p (.sc (.int .i64 93)), .p (.sc (.int .u32 a))] [] lawBadSc = lawBadTree a := by kernel_rfl
theorem lawBad_tree94 (a : Int) : growF Tryd.prog tabEnv lawBadOrc 1000000 3 [.p (.sc (.int .i64 94)), .p (.sc (.int .u32 a))] [] lawBadSc = lawBadTree a := by kernel_rfl
theorem lawBad_tree95 (a : Int) : growF Tryd.prog tabEnv lawBadOrc 1000000 3 [.p (.sc (.int .i64 95)), .p (.sc (.int .u32 a))] [] lawBadSc = lawBadTree a := by kernel_rfl
theorem lawBad_tree96 (a : Int) : growF Tryd.prog tabEnv lawBadOrc 1000000 3 [.p (.sc (.int .i64 96)), .p (.sc (.int .u32 a))] [] lawBadSc = lawBadTree a := by kernel_rfl
theorem lawBad_tree97 (a : Int) : growF Tryd.prog tabEnv lawBadOrc 1000000 3 [.p (.sc (.int .i64 97)), .p (.sc (.int .u32 a))] [] lawBadSc = lawBadTree a := by kernel_rfl
theorem lawBad_tree98 (a : Int) : growF Tryd.prog tabEnv lawBadOrc 1000000 3 [.p (.sc (.int .i64 98)), .p (.sc (.int .u32 a))] [] lawBadSc = lawBadTree a := by kernel_rfl
theorem lawBad_tree99 (a : Int) : growF Tryd.prog tabEnv lawBadOrc 1000000 3 [.p (.sc (.int .i64 99)), .p (.sc (.int .u32 a))] [] lawBadSc = lawBadTree a := by kernel_rfl
theorem lawBad_tree100 (a : Int) : growF Tryd.prog tabEnv lawBadOrc 1000000 3 [.p (.sc (.int .i64 100)), .p (.sc (.int .u32 a))] [] lawBadSc = lawBadTree a := by kernel_rfl
theorem lawBad_tree101 (a : Int) : growF Tryd.prog tabEnv lawBadOrc 1000000 3 [.p (.sc (.int .i64 101)), .p (.sc (.int .u32 a))] [] lawBadSc = lawBadTree a := by kernel_rfl
theorem lawBad_tree102 (a : Int) : growF Tryd.prog tabEnv lawBadOrc 1000000 3 [.p (.sc (.int .i64 102)), .p (.sc (.int .u32 a))] [] lawBadSc = lawBadTree a := by kernel_rfl
theorem lawBad_tree106 (a : Int) : growF Tryd.prog tabEnv lawBadOrc 1000000 3 [.p (.sc (.int .i64 106)), .p (.sc (.int .u32 a))] [] lawBadSc = lawBadTree a := by kernel_rfl
theorem lawBad_tree107 (a : Int) : growF Tryd.prog tabEnv lawBadOrc 1000000 3 [.p (.sc (.int .i64 107)), .p (.sc (.int .u32 a))] [] lawBadSc = lawBadTree a := by kernel_rfl
theorem lawBad_tree108 (a : Int) : growF Tryd.prog tabEnv lawBadOrc 1000000 3 [.p (.sc (.int .i64 108)), .p (.sc (.int .u32 a))] [] lawBadSc = lawBadTree a := by kernel_rfl
theorem lawBad_tree109 (a : Int) : growF Tryd.prog tabEnv lawBadOrc 1000000 3 [.p (.sc (.int .i64 109)), .p (.sc (.int .u32 a))] [] lawBadSc = lawBadTree a := by kernel_rfl
theorem lawBad_tree110 (a : Int) : growF Tryd.prog tabEnv lawBadOrc 1000000 3 [.p (.sc (.int .i64 110)), .p (.sc (.int .u32 a))] [] lawBadSc = lawBadTree a := by kernel_rfl
theorem lawBad_tree111 (a : Int) : growF Tryd.prog tabEnv lawBadOrc 1000000 3 [.p (.sc (.int .i64 111)), .p (.sc (.int .u32 a))] [] lawBadSc = lawBadTree a := by kernel_rfl
theorem lawBad_tree112 (a : Int) : growF Tryd.prog tabEnv lawBadOrc 1000000 3 [.p (.sc (.int .i64 112)), .p (.sc (.int .u32 a))] [] lawBadSc = lawBadTree a := by kernel_rfl
theorem lawBad_tree113 (a : Int) : growF Tryd.prog tabEnv lawBadOrc 1000000 3 [.p (.sc (.int .i64 113)), .p (.sc (.int .u32 a))] [] lawBadSc = lawBadTree a := by kernel_rfl
theorem lawBad_tree114 (a : Int) : growF Tryd.prog tabEnv lawBadOrc 1000000 3 [.p (.sc (.int .i64 114)), .p (.sc (.int .u32 a))] [] lawBadSc = lawBadTree a := by kernel_rfl
theorem lawBad_tree115 (a : Int) : growF Tryd.prog tabEnv lawBadOrc 1000000 3 [.p (.sc (.int .i64 115)), .p (.sc (.int .u32 a))] [] lawBadSc = lawBadTree a := by kernel_rfl
theorem lawBad_tree116 (a : Int) : growF Tryd.prog tabEnv lawBadOrc 1000000 3 [.p (.sc (.int .i64 116)), .p (.sc (.int .u32 a))] [] lawBadSc = lawBadTree a := by kernel_rfl
theorem lawBad_tree117 (a : Int) : growF Tryd.prog tabEnv lawBadOrc 1000000 3 [.p (.sc (.int .i64 117)), .p (.sc (.int .u32 a))] [] lawBadSc = lawBadTree a := by kernel_rfl
theorem lawBad_tree118 (a : Int) : growF Tryd.prog tabEnv lawBadOrc 1000000 3 [.p (.sc (.int .i64 118)), .p (.sc (.int .u32 a))] [] lawBadSc = lawBadTree a := by kernel_rfl
theorem lawBad_tree119 (a : Int) : growF Tryd.prog tabEnv lawBadOrc 1000000 3 [.p (.sc (.int .i64 119)), .p (.sc (.int .u32 a))] [] lawBadSc = lawBadTree a := by kernel_rfl
theorem lawBad_tree120 (a : Int) : growF Tryd.prog tabEnv lawBadOrc 1000000 3 [.p (.sc (.int .i64 120)), .p (.sc (.int .u32 a))] [] lawBadSc = lawBadTree a := by kernel_rfl

theorem lawBad_one {op a : Int} (h : growF Tryd.prog tabEnv lawBadOrc 1000000 3 [.p (.sc (.int .i64 op)), .p (.sc (.int .u32 a))] [] lawBadSc = lawBadTree a) : Does Tryd.prog tabEnv 3 [.p (.sc (.int .i64 op)), .p (.sc (.int .u32 a))] [] (sB true) [] := by
  refine does_of_tree names h ?_
  simp [lawBadTree, Tree.ok, awake, sB]

theorem lawLow_does {op a : Int} (h : op < 0) : Does Tryd.prog tabEnv 3 [.p (.sc (.int .i64 op)), .p (.sc (.int .u32 a))] [] (sB true) [] := by
  refine does_of_tree names (lawLow_tree op a) ?_
  simp [lawLowTree, Tree.ok, awake, sB]; omega

theorem lawHigh_does {op a : Int} (h : 120 < op) : Does Tryd.prog tabEnv 3 [.p (.sc (.int .i64 op)), .p (.sc (.int .u32 a))] [] (sB true) [] := by
  refine does_of_tree names (lawHigh_tree op a) ?_
  simp [lawHighTree, Tree.ok, awake, sB]; omega

theorem lawEqz_does (a : Int) : Does Tryd.prog tabEnv 3 [.p (.sc (.int .i64 69)), .p (.sc (.int .u32 a))] [] (sB true) [] := by
  refine does_of_tree names (lawEqz_tree a) ?_
  simp +contextual [lawEqzTree, Tree.ok, awake, sB]

theorem lawOne_does {A : Nat} (hA : A < 4294967296) : Does Tryd.prog tabEnv 3 [.p (.sc (.int .i64 103)), .p (.sc (.int .u32 A))] [] (sB true) [] ∧ Does Tryd.prog tabEnv 3 [.p (.sc (.int .i64 104)), .p (.sc (.int .u32 A))] [] (sB true) [] ∧ Does Tryd.prog tabEnv 3 [.p (.sc (.int .i64 105)), .p (.sc (.int .u32 A))] [] (sB true) [] := by
  refine ⟨does_of_tree names (lawClz_tree A) ?_, does_of_tree names (lawCtz_tree A) ?_, does_of_tree names (lawPop_tree A) ?_⟩
  · exact ⟨(one_does (op := 103) (by omega) hA).1, (one_does (op := 103) (by omega) hA).2, fun _ => ⟨awake, rfl⟩, fun h => by simp at h⟩
  · exact ⟨(one_does (op := 104) (by omega) hA).1, (one_does (op := 104) (by omega) hA).2, fun _ => ⟨awake, rfl⟩, fun h => by simp at h⟩
  · exact ⟨(one_does (op := 105) (by omega) hA).1, (one_does (op := 105) (by omega) hA).2, fun _ => ⟨awake, rfl⟩, fun h => by simp at h⟩

def badNat : List Nat := [0, 1, 2, 3, 4, 5, 6, 7, 8, 9, 10, 11, 12, 13, 14, 15, 16, 17, 18, 19, 20, 21, 22, 23, 24, 25, 26, 27, 28, 29, 30, 31, 32, 33, 34, 35, 36, 37, 38, 39, 40, 41, 42, 43, 44, 45, 46, 47, 48, 49, 50, 51, 52, 53, 54, 55, 56, 57, 58, 59, 60, 61, 62, 63, 64, 65, 66, 67, 68, 70, 71, 72, 73, 74, 75, 76, 77, 78, 79, 80, 81, 82, 83, 84, 85, 86, 87, 88, 89, 90, 91, 92, 93, 94, 95, 96, 97, 98, 99, 100, 101, 102, 106, 107, 108, 109, 110, 111, 112, 113, 114, 115, 116, 117, 118, 119, 120]

theorem bad_cases : ∀ n, n < 121 → n = 69 ∨ n = 103 ∨ n = 104 ∨ n = 105 ∨ n ∈ badNat := by decide +kernel

theorem bad_all (a : Int) : ∀ n ∈ badNat, growF Tryd.prog tabEnv lawBadOrc 1000000 3 [.p (.sc (.int .i64 (n : Int))), .p (.sc (.int .u32 a))] [] lawBadSc = lawBadTree a :=
  List.forall_mem_cons.2 ⟨lawBad_tree0 a, List.forall_mem_cons.2 ⟨lawBad_tree1 a, List.forall_mem_cons.2 ⟨lawBad_tree2 a, List.forall_mem_cons.2 ⟨lawBad_tree3 a, List.forall_mem_cons.2 ⟨lawBad_tree4 a, List.forall_mem_cons.2 ⟨lawBad_tree5 a, List.forall_mem_cons.2 ⟨lawBad_tree6 a, List.forall_mem_cons.2 ⟨lawBad_tree7 a, List.forall_mem_cons.2 ⟨lawBad_tree8 a, List.forall_mem_cons.2 ⟨lawBad_tree9 a, List.forall_mem_cons.2 ⟨lawBad_tree10 a, List.forall_mem_cons.2 ⟨lawBad_tree11 a, List.forall_mem_cons.2 ⟨lawBad_tree12 a, List.forall_mem_cons.2 ⟨lawBad_tree13 a, List.forall_mem_cons.2 ⟨lawBad_tree14 a, List.forall_mem_cons.2 ⟨lawBad_tree15 a, List.forall_mem_cons.2 ⟨lawBad_tree16 a, List.forall_mem_cons.2 ⟨lawBad_tree17 a, List.forall_mem_cons.2 ⟨lawBad_tree18 a, List.forall_mem_cons.2 ⟨lawBad_tree19 a, List.forall_mem_cons.2 ⟨lawBad_tree20 a, List.forall_mem_cons.2 ⟨lawBad_tree21 a, List.forall_mem_cons.2 ⟨lawBad_tree22 a, List.forall_mem_cons.2 ⟨lawBad_tree23 a, List.forall_mem_cons.2 ⟨lawBad_tree24 a, List.forall_mem_cons.2 ⟨lawBad_tree25 a, List.forall_mem_cons.2 ⟨lawBad_tree26 a, List.forall_mem_cons.2 ⟨lawBad_tree27 a, List.forall_mem_cons.2 ⟨lawBad_tree28 a, List.forall_mem_cons.2 ⟨lawBad_tree29 a, List.forall_mem_cons.2 ⟨lawBad_tree30 a, List.forall_mem_cons.2 ⟨lawBad_tree31 a, List.forall_mem_cons.2 ⟨lawBad_tree32 a, List.forall_mem_cons.2 ⟨lawBad_tree33 a, List.forall_mem_cons.2 ⟨lawBad_tree34 a, List.forall_mem_cons.2 ⟨lawBad_tree35 a, List.forall_mem_cons.2 ⟨lawBad_tree36 a, List.forall_mem_cons.2 ⟨lawBad_tree37 a, List.forall_mem_cons.2 ⟨lawBad_tree38 a, List.forall_mem_cons.2 ⟨lawBad_tree39 a, List.forall_mem_cons.2 ⟨lawBad_tree40 a, List.forall_mem_cons.2 ⟨lawBad_tree41 a, List.forall_mem_cons.2 ⟨lawBad_tree42 a, List.forall_mem_cons.2 ⟨lawBad_tree43 a, List.forall_mem_cons.2 ⟨lawBad_tree44 a, List.forall_mem_cons.2 ⟨lawBad_tree45 a, List.forall_mem_cons.2 ⟨lawBad_tree46 a, List.forall_mem_cons.2 ⟨lawBad_tree47 a, List.forall_mem_cons.2 ⟨lawBad_tree48 a, List.forall_mem_cons.2 ⟨lawBad_tree49 a, List.forall_mem_cons.2 ⟨lawBad_tree50 a, List.forall_mem_cons.2 ⟨lawBad_tree51 a, List.forall_mem_cons.2 ⟨lawBad_tree52 a, List.forall_mem_cons.2 ⟨lawBad_tree53 a, List.forall_mem_cons.2 ⟨lawBad_tree54 a, List.forall_mem_cons.2 ⟨lawBad_tree55 a, List.forall_mem_cons.2 ⟨lawBad_tree56 a, List.forall_mem_cons.2 ⟨lawBad_tree57 a, List.forall_mem_cons.2 ⟨lawBad_tree58 a, List.forall_mem_cons.2 ⟨lawBad_tree59 a, List.forall_mem_cons.2 ⟨lawBad_tree60 a, List.forall_mem_cons.2 ⟨lawBad_tree61 a, List.forall_mem_cons.2 ⟨lawBad_tree62 a, List.forall_mem_cons.2 ⟨lawBad_tree63 a, List.forall_mem_cons.2 ⟨lawBad_tree64 a, List.forall_mem_cons.2 ⟨lawBad_tree65 a, List.forall_mem_cons.2 ⟨lawBad_tree66 a, List.forall_mem_cons.2 ⟨lawBad_tree67 a, List.forall_mem_cons.2 ⟨lawBad_tree68 a, List.forall_mem_cons.2 ⟨lawBad_tree70 a, List.forall_mem_cons.2 ⟨lawBad_tree71 a, List.forall_mem_cons.2 ⟨lawBad_tree72 a, List.forall_mem_cons.2 ⟨lawBad_tree73 a, List.forall_mem_cons.2 ⟨lawBad_tree74 a, List.forall_mem_cons.2 ⟨lawBad_tree75 a, List.forall_mem_cons.2 ⟨lawBad_tree76 a, List.forall_mem_cons.2 ⟨lawBad_tree77 a, List.forall_mem_cons.2 ⟨lawBad_tree78 a, List.forall_mem_cons.2 ⟨lawBad_tree79 a, List.forall_mem_cons.2 ⟨lawBad_tree80 a, List.forall_mem_cons.2 ⟨lawBad_tree81 a, List.forall_mem_cons.2 ⟨lawBad_tree82 a, List.forall_mem_cons.2 ⟨lawBad_tree83 a, List.forall_mem_cons.2 ⟨lawBad_tree84 a, List.forall_mem_cons.2 ⟨lawBad_tree85 a, List.forall_mem_cons.2 ⟨lawBad_tree86 a, List.forall_mem_cons.2 ⟨lawBad_tree87 a, List.forall_mem_cons.2 ⟨lawBad_tree88 a, List.forall_mem_cons.2 ⟨lawBad_tree89 a, List.forall_mem_cons.2 ⟨lawBad_tree90 a, List.forall_mem_cons.2 ⟨lawBad_tree91 a, List.forall_mem_cons.2 ⟨lawBad_tree92 a, List.forall_mem_cons.2 ⟨lawBad_tree93 a, List.forall_mem_cons.2 ⟨lawBad_tree94 a, List.forall_mem_cons.2 ⟨lawBad_tree95 a, List.forall_mem_cons.2 ⟨lawBad_tree96 a, List.forall_mem_cons.2 ⟨lawBad_tree97 a, List.forall_mem_cons.2 ⟨lawBad_tree98 a, List.forall_mem_cons.2 ⟨lawBad_tree99 a, List.forall_mem_cons.2 ⟨lawBad_tree100 a, List.forall_mem_cons.2 ⟨lawBad_tree101 a, List.forall_mem_cons.2 ⟨lawBad_tree102 a, List.forall_mem_cons.2 ⟨lawBad_tree106 a, List.forall_mem_cons.2 ⟨lawBad_tree107 a, List.forall_mem_cons.2 ⟨lawBad_tree108 a, List.forall_mem_cons.2 ⟨lawBad_tree109 a, List.forall_mem_cons.2 ⟨lawBad_tree110 a, List.forall_mem_cons.2 ⟨lawBad_tree111 a, List.forall_mem_cons.2 ⟨lawBad_tree112 a, List.forall_mem_cons.2 ⟨lawBad_tree113 a, List.forall_mem_cons.2 ⟨lawBad_tree114 a, List.forall_mem_cons.2 ⟨lawBad_tree115 a, List.forall_mem_cons.2 ⟨lawBad_tree116 a, List.forall_mem_cons.2 ⟨lawBad_tree117 a, List.forall_mem_cons.2 ⟨lawBad_tree118 a, List.forall_mem_cons.2 ⟨lawBad_tree119 a, List.forall_mem_cons.2 ⟨lawBad_tree120 a, List.forall_mem_nil _⟩⟩⟩⟩⟩⟩⟩⟩⟩⟩⟩⟩⟩⟩⟩⟩⟩⟩⟩⟩⟩⟩⟩⟩⟩⟩⟩⟩⟩⟩⟩⟩⟩⟩⟩⟩⟩⟩⟩⟩⟩⟩⟩⟩⟩⟩⟩⟩⟩⟩⟩⟩⟩⟩⟩⟩⟩⟩⟩⟩⟩⟩⟩⟩⟩⟩⟩⟩⟩⟩⟩⟩⟩⟩⟩⟩⟩⟩⟩⟩⟩⟩⟩⟩⟩⟩⟩⟩⟩⟩⟩⟩⟩⟩⟩⟩⟩⟩⟩⟩⟩⟩⟩⟩⟩⟩⟩⟩⟩⟩⟩⟩⟩⟩⟩⟩⟩

theorem ones_does {op a : Int} (h : 0 ≤ a ∧ a ≤ 4294967295) : Does Tryd.prog tabEnv 3 [.p (.sc (.int .i64 op)), .p (.sc (.int .u32 a))] [] (sB true) [] := by
  obtain ⟨A, rfl⟩ := Int.eq_ofNat_of_zero_le h.1
  rcases Int.lt_or_le op 0 with h0 | h0
  · exact lawLow_does h0
  rcases Int.lt_or_le 120 op with h1 | h1
  · exact lawHigh_does h1
  obtain ⟨n, rfl⟩ := Int.eq_ofNat_of_zero_le h0
  rcases bad_cases n (by omega) with rfl | rfl | rfl | rfl | hb
  · exact lawEqz_does _
  · exact (lawOne_does (by omega)).1
  · exact (lawOne_does (by omega)).2.1
  · exact (lawOne_does (by omega)).2.2
  · exact lawBad_one (bad_all _ n hb)

end Go.Proofs.YthllpmannpolcaaDoor.N
