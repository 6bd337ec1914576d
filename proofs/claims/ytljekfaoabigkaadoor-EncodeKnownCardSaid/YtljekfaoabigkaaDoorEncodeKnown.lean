/-
  EncodeKnown: its call, run, in pieces.
-/
import Derived.Test.YtljekfaoabigkaaDoorEncA
namespace Go.Proofs.YtljekfaoabigkaaDoor.N
open Go Go.Am

def ekc0 : Call' := ⟨7, [.agg [.os none 2 2 [.sc (.int .i64 1), .sc (.int .i64 0), .sc (.int .i64 0), .sc (.int .i64 1)], .os none 0 0 [], .os none 0 0 [], .os none 0 0 [], .os none 0 0 [], .os none 0 0 [], .os none 0 0 [], .p (.sc (.bool false)), .p (.sc (.int .u32 0)), .os none 0 0 [], .os none 0 0 []]], [], .p (.sc (.int .i64 0)), []⟩
theorem ekd0 : Does Tryd.prog (tabsEnv tabs) ekc0.g ekc0.args ekc0.m ekc0.v ekc0.m' := does_of_known names (K := []) calls_nil (n := 10000000) (by kernel_rfl)
def ekK1 : List Call' := ekc0 :: []
theorem ekK1ok : Calls' Tryd.prog (tabsEnv tabs) ekK1 := calls_cons ekd0 calls_nil

def ekc1 : Call' := ⟨14, [.mp 0 0], [.ac [.os none 0 0 [], .os none 2 2 [.sc (.int .i64 1), .sc (.int .i64 0), .sc (.int .i64 0), .sc (.int .i64 1)], .os none 0 0 [], .os none 0 0 [], .os none 0 0 [], .os none 0 0 [], .os none 0 0 [], .os none 0 0 [], .p (.sc (.bool false)), .p (.sc (.int .u32 0)), .os none 0 0 [], .os none 0 0 []]], .tup [], [.ac [.os (some 1) 9 1 [.sc (.int .u8 2), .sc (.int .u8 96), .sc (.int .u8 1), .sc (.int .u8 127), .sc (.int .u8 0), .sc (.int .u8 96), .sc (.int .u8 0), .sc (.int .u8 1), .sc (.int .u8 127)], .os none 2 2 [.sc (.int .i64 1), .sc (.int .i64 0), .sc (.int .i64 0), .sc (.int .i64 1)], .os none 0 0 [], .os none 0 0 [], .os none 0 0 [], .os none 0 0 [], .os none 0 0 [], .os none 0 0 [], .p (.sc (.bool false)), .p (.sc (.int .u32 0)), .os none 0 0 [], .os none 0 0 []], .tok]⟩
theorem ekd1 : Does Tryd.prog (tabsEnv tabs) ekc1.g ekc1.args ekc1.m ekc1.v ekc1.m' := does_of_known names (K := ekK1) ekK1ok (n := 10000000) (by kernel_rfl)
def ekK2 : List Call' := ekc1 :: ekK1
theorem ekK2ok : Calls' Tryd.prog (tabsEnv tabs) ekK2 := calls_cons ekd1 ekK1ok

def ekc2 : Call' := ⟨7, [.agg [.os none 0 0 [], .os none 0 0 [], .os none 0 0 [], .os none 0 0 [], .os none 0 0 [], .os none 0 0 [], .os none 0 0 [], .p (.sc (.bool false)), .p (.sc (.int .u32 0)), .os none 0 0 [], .os none 0 0 []]], [], .p (.sc (.int .i64 0)), []⟩
theorem ekd2 : Does Tryd.prog (tabsEnv tabs) ekc2.g ekc2.args ekc2.m ekc2.v ekc2.m' := does_of_known names (K := ekK2) ekK2ok (n := 10000000) (by kernel_rfl)
def ekK3 : List Call' := ekc2 :: ekK2
theorem ekK3ok : Calls' Tryd.prog (tabsEnv tabs) ekK3 := calls_cons ekd2 ekK2ok

def ekc3 : Call' := ⟨9, [.agg [.os none 0 0 [], .os none 0 0 [], .os none 0 0 [], .os none 0 0 [], .os none 0 0 [], .os none 0 0 [], .os none 0 0 [], .p (.sc (.bool false)), .p (.sc (.int .u32 0)), .os none 0 0 [], .os none 0 0 []]], [], .tup [.os none 8 1 [.sc (.int .u8 0), .sc (.int .u8 97), .sc (.int .u8 115), .sc (.int .u8 109), .sc (.int .u8 1), .sc (.int .u8 0), .sc (.int .u8 0), .sc (.int .u8 0)], .p (.sc (.int .i64 0))], []⟩
theorem ekd3 : Does Tryd.prog (tabsEnv tabs) ekc3.g ekc3.args ekc3.m ekc3.v ekc3.m' := does_of_known names (K := ekK3) ekK3ok (n := 10000000) (by kernel_rfl)
def ekK4 : List Call' := ekc3 :: ekK3
theorem ekK4ok : Calls' Tryd.prog (tabsEnv tabs) ekK4 := calls_cons ekd3 ekK3ok

def ekc4 : Call' := ⟨7, [.agg [.os none 0 0 [], .os none 0 0 [], .os none 0 0 [], .os none 0 0 [], .os none 1 3 [.sc (.int .u32 1), .sc (.int .u32 2), .sc (.bool true)], .os none 0 0 [], .os none 0 0 [], .p (.sc (.bool false)), .p (.sc (.int .u32 0)), .os none 0 0 [], .os none 0 0 []]], [], .p (.sc (.int .i64 0)), []⟩
theorem ekd4 : Does Tryd.prog (tabsEnv tabs) ekc4.g ekc4.args ekc4.m ekc4.v ekc4.m' := does_of_known names (K := ekK4) ekK4ok (n := 10000000) (by kernel_rfl)
def ekK5 : List Call' := ekc4 :: ekK4
theorem ekK5ok : Calls' Tryd.prog (tabsEnv tabs) ekK5 := calls_cons ekd4 ekK4ok

def ekc5 : Call' := ⟨9, [.agg [.os none 0 0 [], .os none 0 0 [], .os none 0 0 [], .os none 0 0 [], .os none 1 3 [.sc (.int .u32 1), .sc (.int .u32 2), .sc (.bool true)], .os none 0 0 [], .os none 0 0 [], .p (.sc (.bool false)), .p (.sc (.int .u32 0)), .os none 0 0 [], .os none 0 0 []]], [], .tup [.os (some 0) 14 1 [.sc (.int .u8 0), .sc (.int .u8 97), .sc (.int .u8 115), .sc (.int .u8 109), .sc (.int .u8 1), .sc (.int .u8 0), .sc (.int .u8 0), .sc (.int .u8 0), .sc (.int .u8 5), .sc (.int .u8 4), .sc (.int .u8 1), .sc (.int .u8 1), .sc (.int .u8 1), .sc (.int .u8 2)], .p (.sc (.int .i64 0))], [.tok]⟩
theorem ekd5 : Does Tryd.prog (tabsEnv tabs) ekc5.g ekc5.args ekc5.m ekc5.v ekc5.m' := does_of_known names (K := ekK5) ekK5ok (n := 10000000) (by kernel_rfl)
def ekK6 : List Call' := ekc5 :: ekK5
theorem ekK6ok : Calls' Tryd.prog (tabsEnv tabs) ekK6 := calls_cons ekd5 ekK5ok

theorem ekdoes : Does Tryd.prog (tabsEnv tabs) 3 [] [] (.p (.sc (.bool true))) [] := does_of_known names (K := ekK6) ekK6ok (n := 10000000) (by kernel_rfl)

end Go.Proofs.YtljekfaoabigkaaDoor.N
