/-
  VcW: its call, run, in pieces (1 of 3).
-/
import Derived.Test.YthnpfilmecibcaaGreatDoorVcA
namespace Go.Proofs.YthnpfilmecibcaaGreatDoor.N
open Go Go.Am

def Awc0 : Call' := ⟨79, [.p (.sc (.string ⟨#[101, 113, 122, 32, 101, 113, 32, 110, 101, 32, 108, 116, 95, 115, 32, 108, 116, 95, 117, 32, 103, 116, 95, 115, 32, 103, 116, 95, 117, 32, 108, 101, 95, 115, 32, 108, 101, 95, 117, 32, 103, 101, 95, 115, 32, 103, 101, 95, 117]⟩))], [], .p (.ps 11 1 [.sc (.string ⟨#[101, 113, 122]⟩), .sc (.string ⟨#[101, 113]⟩), .sc (.string ⟨#[110, 101]⟩), .sc (.string ⟨#[108, 116, 95, 115]⟩), .sc (.string ⟨#[108, 116, 95, 117]⟩), .sc (.string ⟨#[103, 116, 95, 115]⟩), .sc (.string ⟨#[103, 116, 95, 117]⟩), .sc (.string ⟨#[108, 101, 95, 115]⟩), .sc (.string ⟨#[108, 101, 95, 117]⟩), .sc (.string ⟨#[103, 101, 95, 115]⟩), .sc (.string ⟨#[103, 101, 95, 117]⟩)]), []⟩
theorem Awd0 : Does Tryz.prog env Awc0.g Awc0.args Awc0.m Awc0.v Awc0.m' := does_fast names (K := []) calls_nil (n := 10000000) (by kernel_rfl)
def AwK1 : List Call' := Awc0 :: []
theorem AwK1ok : Calls' Tryz.prog env AwK1 := calls_cons Awd0 calls_nil

def Awc1 : Call' := ⟨79, [.p (.sc (.string ⟨#[99, 108, 122, 32, 99, 116, 122, 32, 112, 111, 112, 99, 110, 116, 32, 97, 100, 100, 32, 115, 117, 98, 32, 109, 117, 108, 32, 100, 105, 118, 95, 115, 32, 100, 105, 118, 95, 117, 32, 114, 101, 109, 95, 115, 32, 114, 101, 109, 95, 117, 32, 97, 110, 100, 32, 111, 114, 32, 120, 111, 114, 32, 115, 104, 108, 32, 115, 104, 114, 95, 115, 32, 115, 104, 114, 95, 117, 32, 114, 111, 116, 108, 32, 114, 111, 116, 114]⟩))], [], .p (.ps 18 1 [.sc (.string ⟨#[99, 108, 122]⟩), .sc (.string ⟨#[99, 116, 122]⟩), .sc (.string ⟨#[112, 111, 112, 99, 110, 116]⟩), .sc (.string ⟨#[97, 100, 100]⟩), .sc (.string ⟨#[115, 117, 98]⟩), .sc (.string ⟨#[109, 117, 108]⟩), .sc (.string ⟨#[100, 105, 118, 95, 115]⟩), .sc (.string ⟨#[100, 105, 118, 95, 117]⟩), .sc (.string ⟨#[114, 101, 109, 95, 115]⟩), .sc (.string ⟨#[114, 101, 109, 95, 117]⟩), .sc (.string ⟨#[97, 110, 100]⟩), .sc (.string ⟨#[111, 114]⟩), .sc (.string ⟨#[120, 111, 114]⟩), .sc (.string ⟨#[115, 104, 108]⟩), .sc (.string ⟨#[115, 104, 114, 95, 115]⟩), .sc (.string ⟨#[115, 104, 114, 95, 117]⟩), .sc (.string ⟨#[114, 111, 116, 108]⟩), .sc (.string ⟨#[114, 111, 116, 114]⟩)]), []⟩
theorem Awd1 : Does Tryz.prog env Awc1.g Awc1.args Awc1.m Awc1.v Awc1.m' := does_fast names (K := AwK1) AwK1ok (n := 10000000) (by kernel_rfl)
def AwK2 : List Call' := Awc1 :: AwK1
theorem AwK2ok : Calls' Tryz.prog env AwK2 := calls_cons Awd1 AwK1ok

def Awc2 : Call' := ⟨9, [.p (.ps 1 8 [.sc (.int .i64 32), .sc (.int .i64 0), .sc (.int .u32 0), .sc (.int .u32 0), .sc (.int .i32 0), .ps 0 0 [], .ps 0 0 [], .ps 0 0 []])], [], .p (.sc (.int .i64 0)), []⟩
theorem Awd2 : Does Tryz.prog env Awc2.g Awc2.args Awc2.m Awc2.v Awc2.m' := does_fast names (K := AwK2) AwK2ok (n := 10000000) (by kernel_rfl)
def AwK3 : List Call' := Awc2 :: AwK2
theorem AwK3ok : Calls' Tryz.prog env AwK3 := calls_cons Awd2 AwK2ok

def Awc3 : Call' := ⟨22, [.agg [.os none 1 2 [.sc (.int .i64 1), .sc (.int .i64 1)], .os none 0 0 [], .os none 1 3 [.sc (.int .i64 0), .sc (.int .i64 0), .ps 1 8 [.sc (.int .i64 32), .sc (.int .i64 0), .sc (.int .u32 0), .sc (.int .u32 0), .sc (.int .i32 0), .ps 0 0 [], .ps 0 0 [], .ps 0 0 []]], .os none 0 0 [], .os none 0 0 [], .os none 0 0 [], .os none 0 0 [], .p (.sc (.bool false)), .p (.sc (.int .u32 0)), .os none 0 0 [], .os none 0 0 []]], [], .p (.sc (.int .i64 0)), []⟩
theorem Awd3 : Does Tryz.prog env Awc3.g Awc3.args Awc3.m Awc3.v Awc3.m' := does_fast names (K := AwK3) AwK3ok (n := 10000000) (by kernel_rfl)
def AwK4 : List Call' := Awc3 :: AwK3
theorem AwK4ok : Calls' Tryz.prog env AwK4 := calls_cons Awd3 AwK3ok

end Go.Proofs.YthnpfilmecibcaaGreatDoor.N
