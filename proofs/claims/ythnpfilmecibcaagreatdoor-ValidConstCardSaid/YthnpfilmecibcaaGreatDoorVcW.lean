/-
  VcW: its call, run, in pieces (3 of 3).
-/
import Derived.Test.YthnpfilmecibcaaGreatDoorVcW2
namespace Go.Proofs.YthnpfilmecibcaaGreatDoor.N
open Go Go.Am

def Awc8 : Call' := ⟨9, [.p (.ps 1 8 [.sc (.int .i64 65), .sc (.int .i64 0), .sc (.int .u32 0), .sc (.int .u32 0), .sc (.int .i32 0), .ps 0 0 [], .ps 0 0 [], .ps 0 0 []])], [], .p (.sc (.int .i64 0)), []⟩
theorem Awd8 : Does Tryz.prog env Awc8.g Awc8.args Awc8.m Awc8.v Awc8.m' := does_fast names (K := AwK8) AwK8ok (n := 10000000) (by kernel_rfl)
def AwK9 : List Call' := Awc8 :: AwK8
theorem AwK9ok : Calls' Tryz.prog env AwK9 := calls_cons Awd8 AwK8ok

def Awc9 : Call' := ⟨31, [.agg [.os none 2 2 [.sc (.int .i64 1), .sc (.int .i64 1), .sc (.int .i64 0), .sc (.int .i64 0)], .os none 1 3 [.sc (.string ⟨#[104, 111, 115, 116]⟩), .sc (.string ⟨#[102]⟩), .sc (.int .i64 0)], .os none 1 3 [.sc (.int .i64 1), .sc (.int .i64 0), .ps 0 0 []], .os none 1 3 [.sc (.int .u32 1), .sc (.int .u32 0), .sc (.bool false)], .os none 1 3 [.sc (.int .u32 1), .sc (.int .u32 0), .sc (.bool false)], .os none 2 2 [.sc (.bool true), .ps 1 8 [.sc (.int .i64 65), .sc (.int .i64 0), .sc (.int .u32 0), .sc (.int .u32 0), .sc (.int .i32 0), .ps 0 0 [], .ps 0 0 [], .ps 0 0 []], .sc (.bool false), .ps 1 8 [.sc (.int .i64 65), .sc (.int .i64 0), .sc (.int .u32 0), .sc (.int .u32 0), .sc (.int .i32 0), .ps 0 0 [], .ps 0 0 [], .ps 0 0 []]], .os none 0 0 [], .p (.sc (.bool false)), .p (.sc (.int .u32 0)), .os none 0 0 [], .os none 0 0 []]], [], .p (.sc (.int .i64 0)), []⟩
theorem Awd9 : Does Tryz.prog env Awc9.g Awc9.args Awc9.m Awc9.v Awc9.m' := does_fast names (K := AwK9) AwK9ok (n := 10000000) (by kernel_rfl)
def AwK10 : List Call' := Awc9 :: AwK9
theorem AwK10ok : Calls' Tryz.prog env AwK10 := calls_cons Awd9 AwK9ok

def Awc10 : Call' := ⟨13, [.agg [.os none 2 2 [.sc (.int .i64 1), .sc (.int .i64 1), .sc (.int .i64 0), .sc (.int .i64 0)], .os none 1 3 [.sc (.string ⟨#[104, 111, 115, 116]⟩), .sc (.string ⟨#[102]⟩), .sc (.int .i64 0)], .os none 1 3 [.sc (.int .i64 1), .sc (.int .i64 0), .ps 0 0 []], .os none 1 3 [.sc (.int .u32 1), .sc (.int .u32 0), .sc (.bool false)], .os none 1 3 [.sc (.int .u32 1), .sc (.int .u32 0), .sc (.bool false)], .os none 2 2 [.sc (.bool true), .ps 1 8 [.sc (.int .i64 65), .sc (.int .i64 0), .sc (.int .u32 0), .sc (.int .u32 0), .sc (.int .i32 0), .ps 0 0 [], .ps 0 0 [], .ps 0 0 []], .sc (.bool false), .ps 1 8 [.sc (.int .i64 65), .sc (.int .i64 0), .sc (.int .u32 0), .sc (.int .u32 0), .sc (.int .i32 0), .ps 0 0 [], .ps 0 0 [], .ps 0 0 []]], .os none 0 0 [], .p (.sc (.bool false)), .p (.sc (.int .u32 0)), .os none 0 0 [], .os none 0 0 []]], [], .agg [.p (.sc (.int .i64 0)), .p (.sc (.int .i64 0)), .p (.sc (.int .i64 0)), .p (.sc (.int .i64 0))], []⟩
theorem Awd10 : Does Tryz.prog env Awc10.g Awc10.args Awc10.m Awc10.v Awc10.m' := does_fast names (K := AwK10) AwK10ok (n := 10000000) (by kernel_rfl)
def AwK11 : List Call' := Awc10 :: AwK10
theorem AwK11ok : Calls' Tryz.prog env AwK11 := calls_cons Awd10 AwK10ok

theorem Awdoes : Does Tryz.prog env 8 [] [] (.p (.sc (.bool true))) [] := does_fast names (K := AwK11) AwK11ok (n := 10000000) (by kernel_rfl)

end Go.Proofs.YthnpfilmecibcaaGreatDoor.N
