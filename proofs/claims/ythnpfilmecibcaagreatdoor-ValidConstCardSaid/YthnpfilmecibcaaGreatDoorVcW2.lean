/-
  VcW: its call, run, in pieces (2 of 3).
-/
import Derived.Test.YthnpfilmecibcaaGreatDoorVcW1
namespace Go.Proofs.YthnpfilmecibcaaGreatDoor.N
open Go Go.Am

def Awc4 : Call' := ⟨28, [.agg [.os none 1 2 [.sc (.int .i64 1), .sc (.int .i64 1)], .os none 0 0 [], .os none 1 3 [.sc (.int .i64 0), .sc (.int .i64 0), .ps 1 8 [.sc (.int .i64 32), .sc (.int .i64 0), .sc (.int .u32 0), .sc (.int .u32 0), .sc (.int .i32 0), .ps 0 0 [], .ps 0 0 [], .ps 0 0 []]], .os none 0 0 [], .os none 0 0 [], .os none 0 0 [], .os none 0 0 [], .p (.sc (.bool false)), .p (.sc (.int .u32 0)), .os none 0 0 [], .os none 0 0 []], .p (.sc (.int .i64 0))], [], .tup [.p (.sc (.int .i64 0)), .p (.sc (.int .i64 0))], []⟩
theorem Awd4 : Does Tryz.prog env Awc4.g Awc4.args Awc4.m Awc4.v Awc4.m' := does_fast names (K := AwK4) AwK4ok (n := 10000000) (by kernel_rfl)
def AwK5 : List Call' := Awc4 :: AwK4
theorem AwK5ok : Calls' Tryz.prog env AwK5 := calls_cons Awd4 AwK4ok

def Awc5 : Call' := ⟨9, [.p (.ps 1 8 [.sc (.int .i64 32), .sc (.int .i64 0), .sc (.int .u32 1), .sc (.int .u32 0), .sc (.int .i32 0), .ps 0 0 [], .ps 0 0 [], .ps 0 0 []])], [], .p (.sc (.int .i64 0)), []⟩
theorem Awd5 : Does Tryz.prog env Awc5.g Awc5.args Awc5.m Awc5.v Awc5.m' := does_fast names (K := AwK5) AwK5ok (n := 10000000) (by kernel_rfl)
def AwK6 : List Call' := Awc5 :: AwK5
theorem AwK6ok : Calls' Tryz.prog env AwK6 := calls_cons Awd5 AwK5ok

def Awc6 : Call' := ⟨22, [.agg [.os none 1 2 [.sc (.int .i64 1), .sc (.int .i64 1)], .os none 0 0 [], .os none 1 3 [.sc (.int .i64 0), .sc (.int .i64 0), .ps 1 8 [.sc (.int .i64 32), .sc (.int .i64 0), .sc (.int .u32 1), .sc (.int .u32 0), .sc (.int .i32 0), .ps 0 0 [], .ps 0 0 [], .ps 0 0 []]], .os none 0 0 [], .os none 0 0 [], .os none 0 0 [], .os none 0 0 [], .p (.sc (.bool false)), .p (.sc (.int .u32 0)), .os none 0 0 [], .os none 0 0 []]], [], .p (.sc (.int .i64 0)), []⟩
theorem Awd6 : Does Tryz.prog env Awc6.g Awc6.args Awc6.m Awc6.v Awc6.m' := does_fast names (K := AwK6) AwK6ok (n := 10000000) (by kernel_rfl)
def AwK7 : List Call' := Awc6 :: AwK6
theorem AwK7ok : Calls' Tryz.prog env AwK7 := calls_cons Awd6 AwK6ok

def Awc7 : Call' := ⟨22, [.agg [.os none 1 2 [.sc (.int .i64 1), .sc (.int .i64 1)], .os none 0 0 [], .os none 1 3 [.sc (.int .i64 0), .sc (.int .i64 0), .ps 0 0 []], .os none 0 0 [], .os none 0 0 [], .os none 0 0 [], .os none 0 0 [], .p (.sc (.bool false)), .p (.sc (.int .u32 0)), .os none 0 0 [], .os none 0 0 []]], [], .p (.sc (.int .i64 0)), []⟩
theorem Awd7 : Does Tryz.prog env Awc7.g Awc7.args Awc7.m Awc7.v Awc7.m' := does_fast names (K := AwK7) AwK7ok (n := 10000000) (by kernel_rfl)
def AwK8 : List Call' := Awc7 :: AwK7
theorem AwK8ok : Calls' Tryz.prog env AwK8 := calls_cons Awd7 AwK7ok

end Go.Proofs.YthnpfilmecibcaaGreatDoor.N
