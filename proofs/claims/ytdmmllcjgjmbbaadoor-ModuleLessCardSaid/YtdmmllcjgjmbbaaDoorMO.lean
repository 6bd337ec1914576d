/-
  awake: its call, run, in pieces.
  ModuleLess: what less makes of a module, module.TypeOf, and the law.
  How long a module's lists are, at most: by the row's bound on sizes. And arrays of pairs that a row lists.
  What the row's condition tells: the library's tables, cell by cell; the types of modules.
-/
import Derived.Test.YtdmmllcjgjmbbaaDoorMH
import Derived.Test.YtdmmllcjgjmbbaaDoorMF
import Derived.Test.YtdmmllcjgjmbbaaDoorMN
import Derived.Test.YtdmmllcjgjmbbaaDoorRows
import Derived.MakeChecks

section
namespace Go.Proofs.YtdmmllcjgjmbbaaDoor.N
open Go Go.Am

def envC : Env where
  glob := tabAt tabs
  wr := wrs
  keep _ _ := none

def Awc0 : Call' := ⟨60, [.p (.sc (.string ⟨#[101, 113, 122, 32, 101, 113, 32, 110, 101, 32, 108, 116, 95, 115, 32, 108, 116, 95, 117, 32, 103, 116, 95, 115, 32, 103, 116, 95, 117, 32, 108, 101, 95, 115, 32, 108, 101, 95, 117, 32, 103, 101, 95, 115, 32, 103, 101, 95, 117]⟩))], [], .p (.ps 11 1 [.sc (.string ⟨#[101, 113, 122]⟩), .sc (.string ⟨#[101, 113]⟩), .sc (.string ⟨#[110, 101]⟩), .sc (.string ⟨#[108, 116, 95, 115]⟩), .sc (.string ⟨#[108, 116, 95, 117]⟩), .sc (.string ⟨#[103, 116, 95, 115]⟩), .sc (.string ⟨#[103, 116, 95, 117]⟩), .sc (.string ⟨#[108, 101, 95, 115]⟩), .sc (.string ⟨#[108, 101, 95, 117]⟩), .sc (.string ⟨#[103, 101, 95, 115]⟩), .sc (.string ⟨#[103, 101, 95, 117]⟩)]), []⟩
theorem Awd0 : Does Tryd.prog envC Awc0.g Awc0.args Awc0.m Awc0.v Awc0.m' := does_fast names (K := []) calls_nil (n := 10000000) (by kernel_rfl)
def AwK1 : List Call' := Awc0 :: []
theorem AwK1ok : Calls' Tryd.prog envC AwK1 := calls_cons Awd0 calls_nil

def Awc1 : Call' := ⟨60, [.p (.sc (.string ⟨#[99, 108, 122, 32, 99, 116, 122, 32, 112, 111, 112, 99, 110, 116, 32, 97, 100, 100, 32, 115, 117, 98, 32, 109, 117, 108, 32, 100, 105, 118, 95, 115, 32, 100, 105, 118, 95, 117, 32, 114, 101, 109, 95, 115, 32, 114, 101, 109, 95, 117, 32, 97, 110, 100, 32, 111, 114, 32, 120, 111, 114, 32, 115, 104, 108, 32, 115, 104, 114, 95, 115, 32, 115, 104, 114, 95, 117, 32, 114, 111, 116, 108, 32, 114, 111, 116, 114]⟩))], [], .p (.ps 18 1 [.sc (.string ⟨#[99, 108, 122]⟩), .sc (.string ⟨#[99, 116, 122]⟩), .sc (.string ⟨#[112, 111, 112, 99, 110, 116]⟩), .sc (.string ⟨#[97, 100, 100]⟩), .sc (.string ⟨#[115, 117, 98]⟩), .sc (.string ⟨#[109, 117, 108]⟩), .sc (.string ⟨#[100, 105, 118, 95, 115]⟩), .sc (.string ⟨#[100, 105, 118, 95, 117]⟩), .sc (.string ⟨#[114, 101, 109, 95, 115]⟩), .sc (.string ⟨#[114, 101, 109, 95, 117]⟩), .sc (.string ⟨#[97, 110, 100]⟩), .sc (.string ⟨#[111, 114]⟩), .sc (.string ⟨#[120, 111, 114]⟩), .sc (.string ⟨#[115, 104, 108]⟩), .sc (.string ⟨#[115, 104, 114, 95, 115]⟩), .sc (.string ⟨#[115, 104, 114, 95, 117]⟩), .sc (.string ⟨#[114, 111, 116, 108]⟩), .sc (.string ⟨#[114, 111, 116, 114]⟩)]), []⟩
theorem Awd1 : Does Tryd.prog envC Awc1.g Awc1.args Awc1.m Awc1.v Awc1.m' := does_fast names (K := AwK1) AwK1ok (n := 10000000) (by kernel_rfl)
def AwK2 : List Call' := Awc1 :: AwK1
theorem AwK2ok : Calls' Tryd.prog envC AwK2 := calls_cons Awd1 AwK1ok

def Awc2 : Call' := ⟨59, [], [], .agg [.p (.sc (.string ⟨#[117, 110, 114, 101, 97, 99, 104, 97, 98, 108, 101]⟩)), .p (.sc (.string ⟨#[110, 111, 112]⟩)), .p (.sc (.string ⟨#[98, 108, 111, 99, 107]⟩)), .p (.sc (.string ⟨#[108, 111, 111, 112]⟩)), .p (.sc (.string ⟨#[105, 102]⟩)), .p (.sc (.string ⟨#[]⟩)), .p (.sc (.string ⟨#[]⟩)), .p (.sc (.string ⟨#[]⟩)), .p (.sc (.string ⟨#[]⟩)), .p (.sc (.string ⟨#[]⟩)), .p (.sc (.string ⟨#[]⟩)), .p (.sc (.string ⟨#[]⟩)), .p (.sc (.string ⟨#[98, 114]⟩)), .p (.sc (.string ⟨#[98, 114, 95, 105, 102]⟩)), .p (.sc (.string ⟨#[98, 114, 95, 116, 97, 98, 108, 101]⟩)), .p (.sc (.string ⟨#[114, 101, 116, 117, 114, 110]⟩)), .p (.sc (.string ⟨#[99, 97, 108, 108]⟩)), .p (.sc (.string ⟨#[99, 97, 108, 108, 95, 105, 110, 100, 105, 114, 101, 99, 116]⟩)), .p (.sc (.string ⟨#[]⟩)), .p (.sc (.string ⟨#[]⟩)), .p (.sc (.string ⟨#[]⟩)), .p (.sc (.string ⟨#[]⟩)), .p (.sc (.string ⟨#[]⟩)), .p (.sc (.string ⟨#[]⟩)), .p (.sc (.string ⟨#[]⟩)), .p (.sc (.string ⟨#[]⟩)), .p (.sc (.string ⟨#[100, 114, 111, 112]⟩)), .p (.sc (.string ⟨#[115, 101, 108, 101, 99, 116]⟩)), .p (.sc (.string ⟨#[]⟩)), .p (.sc (.string ⟨#[]⟩)), .p (.sc (.string ⟨#[]⟩)), .p (.sc (.string ⟨#[]⟩)), .p (.sc (.string ⟨#[108, 111, 99, 97, 108, 46, 103, 101, 116]⟩)), .p (.sc (.string ⟨#[108, 111, 99, 97, 108, 46, 115, 101, 116]⟩)), .p (.sc (.string ⟨#[108, 111, 99, 97, 108, 46, 116, 101, 101]⟩)), .p (.sc (.string ⟨#[103, 108, 111, 98, 97, 108, 46, 103, 101, 116]⟩)), .p (.sc (.string ⟨#[103, 108, 111, 98, 97, 108, 46, 115, 101, 116]⟩)), .p (.sc (.string ⟨#[]⟩)), .p (.sc (.string ⟨#[]⟩)), .p (.sc (.string ⟨#[]⟩)), .p (.sc (.string ⟨#[105, 51, 50, 46, 108, 111, 97, 100]⟩)), .p (.sc (.string ⟨#[]⟩)), .p (.sc (.string ⟨#[]⟩)), .p (.sc (.string ⟨#[]⟩)), .p (.sc (.string ⟨#[105, 51, 50, 46, 108, 111, 97, 100, 56, 95, 115]⟩)), .p (.sc (.string ⟨#[105, 51, 50, 46, 108, 111, 97, 100, 56, 95, 117]⟩)), .p (.sc (.string ⟨#[105, 51, 50, 46, 108, 111, 97, 100, 49, 54, 95, 115]⟩)), .p (.sc (.string ⟨#[105, 51, 50, 46, 108, 111, 97, 100, 49, 54, 95, 117]⟩)), .p (.sc (.string ⟨#[]⟩)), .p (.sc (.string ⟨#[]⟩)), .p (.sc (.string ⟨#[]⟩)), .p (.sc (.string ⟨#[]⟩)), .p (.sc (.string ⟨#[]⟩)), .p (.sc (.string ⟨#[]⟩)), .p (.sc (.string ⟨#[105, 51, 50, 46, 115, 116, 111, 114, 101]⟩)), .p (.sc (.string ⟨#[]⟩)), .p (.sc (.string ⟨#[]⟩)), .p (.sc (.string ⟨#[]⟩)), .p (.sc (.string ⟨#[105, 51, 50, 46, 115, 116, 111, 114, 101, 56]⟩)), .p (.sc (.string ⟨#[105, 51, 50, 46, 115, 116, 111, 114, 101, 49, 54]⟩)), .p (.sc (.string ⟨#[]⟩)), .p (.sc (.string ⟨#[]⟩)), .p (.sc (.string ⟨#[]⟩)), .p (.sc (.string ⟨#[109, 101, 109, 111, 114, 121, 46, 115, 105, 122, 101]⟩)), .p (.sc (.string ⟨#[109, 101, 109, 111, 114, 121, 46, 103, 114, 111, 119]⟩)), .p (.sc (.string ⟨#[105, 51, 50, 46, 99, 111, 110, 115, 116]⟩)), .p (.sc (.string ⟨#[]⟩)), .p (.sc (.string ⟨#[]⟩)), .p (.sc (.string ⟨#[]⟩)), .p (.sc (.string ⟨#[105, 51, 50, 46, 101, 113, 122]⟩)), .p (.sc (.string ⟨#[105, 51, 50, 46, 101, 113]⟩)), .p (.sc (.string ⟨#[105, 51, 50, 46, 110, 101]⟩)), .p (.sc (.string ⟨#[105, 51, 50, 46, 108, 116, 95, 115]⟩)), .p (.sc (.string ⟨#[105, 51, 50, 46, 108, 116, 95, 117]⟩)), .p (.sc (.string ⟨#[105, 51, 50, 46, 103, 116, 95, 115]⟩)), .p (.sc (.string ⟨#[105, 51, 50, 46, 103, 116, 95, 117]⟩)), .p (.sc (.string ⟨#[105, 51, 50, 46, 108, 101, 95, 115]⟩)), .p (.sc (.string ⟨#[105, 51, 50, 46, 108, 101, 95, 117]⟩)), .p (.sc (.string ⟨#[105, 51, 50, 46, 103, 101, 95, 115]⟩)), .p (.sc (.string ⟨#[105, 51, 50, 46, 103, 101, 95, 117]⟩)), .p (.sc (.string ⟨#[]⟩)), .p (.sc (.string ⟨#[]⟩)), .p (.sc (.string ⟨#[]⟩)), .p (.sc (.string ⟨#[]⟩)), .p (.sc (.string ⟨#[]⟩)), .p (.sc (.string ⟨#[]⟩)), .p (.sc (.string ⟨#[]⟩)), .p (.sc (.string ⟨#[]⟩)), .p (.sc (.string ⟨#[]⟩)), .p (.sc (.string ⟨#[]⟩)), .p (.sc (.string ⟨#[]⟩)), .p (.sc (.string ⟨#[]⟩)), .p (.sc (.string ⟨#[]⟩)), .p (.sc (.string ⟨#[]⟩)), .p (.sc (.string ⟨#[]⟩)), .p (.sc (.string ⟨#[]⟩)), .p (.sc (.string ⟨#[]⟩)), .p (.sc (.string ⟨#[]⟩)), .p (.sc (.string ⟨#[]⟩)), .p (.sc (.string ⟨#[]⟩)), .p (.sc (.string ⟨#[]⟩)), .p (.sc (.string ⟨#[]⟩)), .p (.sc (.string ⟨#[]⟩)), .p (.sc (.string ⟨#[105, 51, 50, 46, 99, 108, 122]⟩)), .p (.sc (.string ⟨#[105, 51, 50, 46, 99, 116, 122]⟩)), .p (.sc (.string ⟨#[105, 51, 50, 46, 112, 111, 112, 99, 110, 116]⟩)), .p (.sc (.string ⟨#[105, 51, 50, 46, 97, 100, 100]⟩)), .p (.sc (.string ⟨#[105, 51, 50, 46, 115, 117, 98]⟩)), .p (.sc (.string ⟨#[105, 51, 50, 46, 109, 117, 108]⟩)), .p (.sc (.string ⟨#[105, 51, 50, 46, 100, 105, 118, 95, 115]⟩)), .p (.sc (.string ⟨#[105, 51, 50, 46, 100, 105, 118, 95, 117]⟩)), .p (.sc (.string ⟨#[105, 51, 50, 46, 114, 101, 109, 95, 115]⟩)), .p (.sc (.string ⟨#[105, 51, 50, 46, 114, 101, 109, 95, 117]⟩)), .p (.sc (.string ⟨#[105, 51, 50, 46, 97, 110, 100]⟩)), .p (.sc (.string ⟨#[105, 51, 50, 46, 111, 114]⟩)), .p (.sc (.string ⟨#[105, 51, 50, 46, 120, 111, 114]⟩)), .p (.sc (.string ⟨#[105, 51, 50, 46, 115, 104, 108]⟩)), .p (.sc (.string ⟨#[105, 51, 50, 46, 115, 104, 114, 95, 115]⟩)), .p (.sc (.string ⟨#[105, 51, 50, 46, 115, 104, 114, 95, 117]⟩)), .p (.sc (.string ⟨#[105, 51, 50, 46, 114, 111, 116, 108]⟩)), .p (.sc (.string ⟨#[105, 51, 50, 46, 114, 111, 116, 114]⟩)), .p (.sc (.string ⟨#[]⟩)), .p (.sc (.string ⟨#[]⟩)), .p (.sc (.string ⟨#[]⟩)), .p (.sc (.string ⟨#[]⟩)), .p (.sc (.string ⟨#[]⟩)), .p (.sc (.string ⟨#[]⟩)), .p (.sc (.string ⟨#[]⟩)), .p (.sc (.string ⟨#[]⟩)), .p (.sc (.string ⟨#[]⟩)), .p (.sc (.string ⟨#[]⟩)), .p (.sc (.string ⟨#[]⟩)), .p (.sc (.string ⟨#[]⟩)), .p (.sc (.string ⟨#[]⟩)), .p (.sc (.string ⟨#[]⟩)), .p (.sc (.string ⟨#[]⟩)), .p (.sc (.string ⟨#[]⟩)), .p (.sc (.string ⟨#[]⟩)), .p (.sc (.string ⟨#[]⟩)), .p (.sc (.string ⟨#[]⟩)), .p (.sc (.string ⟨#[]⟩)), .p (.sc (.string ⟨#[]⟩)), .p (.sc (.string ⟨#[]⟩)), .p (.sc (.string ⟨#[]⟩)), .p (.sc (.string ⟨#[]⟩)), .p (.sc (.string ⟨#[]⟩)), .p (.sc (.string ⟨#[]⟩)), .p (.sc (.string ⟨#[]⟩)), .p (.sc (.string ⟨#[]⟩)), .p (.sc (.string ⟨#[]⟩)), .p (.sc (.string ⟨#[]⟩)), .p (.sc (.string ⟨#[]⟩)), .p (.sc (.string ⟨#[]⟩)), .p (.sc (.string ⟨#[]⟩)), .p (.sc (.string ⟨#[]⟩)), .p (.sc (.string ⟨#[]⟩)), .p (.sc (.string ⟨#[]⟩)), .p (.sc (.string ⟨#[]⟩)), .p (.sc (.string ⟨#[]⟩)), .p (.sc (.string ⟨#[]⟩)), .p (.sc (.string ⟨#[]⟩)), .p (.sc (.string ⟨#[]⟩)), .p (.sc (.string ⟨#[]⟩)), .p (.sc (.string ⟨#[]⟩)), .p (.sc (.string ⟨#[]⟩)), .p (.sc (.string ⟨#[]⟩)), .p (.sc (.string ⟨#[]⟩)), .p (.sc (.string ⟨#[]⟩)), .p (.sc (.string ⟨#[]⟩)), .p (.sc (.string ⟨#[]⟩)), .p (.sc (.string ⟨#[]⟩)), .p (.sc (.string ⟨#[]⟩)), .p (.sc (.string ⟨#[]⟩)), .p (.sc (.string ⟨#[]⟩)), .p (.sc (.string ⟨#[]⟩)), .p (.sc (.string ⟨#[]⟩)), .p (.sc (.string ⟨#[]⟩)), .p (.sc (.string ⟨#[]⟩)), .p (.sc (.string ⟨#[]⟩)), .p (.sc (.string ⟨#[]⟩)), .p (.sc (.string ⟨#[]⟩)), .p (.sc (.string ⟨#[]⟩)), .p (.sc (.string ⟨#[]⟩)), .p (.sc (.string ⟨#[]⟩)), .p (.sc (.string ⟨#[]⟩)), .p (.sc (.string ⟨#[]⟩)), .p (.sc (.string ⟨#[]⟩)), .p (.sc (.string ⟨#[]⟩)), .p (.sc (.string ⟨#[]⟩)), .p (.sc (.string ⟨#[]⟩)), .p (.sc (.string ⟨#[]⟩)), .p (.sc (.string ⟨#[]⟩)), .p (.sc (.string ⟨#[]⟩)), .p (.sc (.string ⟨#[]⟩)), .p (.sc (.string ⟨#[]⟩)), .p (.sc (.string ⟨#[]⟩)), .p (.sc (.string ⟨#[]⟩)), .p (.sc (.string ⟨#[]⟩)), .p (.sc (.string ⟨#[]⟩)), .p (.sc (.string ⟨#[]⟩)), .p (.sc (.string ⟨#[]⟩)), .p (.sc (.string ⟨#[]⟩)), .p (.sc (.string ⟨#[]⟩)), .p (.sc (.string ⟨#[]⟩)), .p (.sc (.string ⟨#[]⟩)), .p (.sc (.string ⟨#[]⟩)), .p (.sc (.string ⟨#[]⟩)), .p (.sc (.string ⟨#[]⟩)), .p (.sc (.string ⟨#[]⟩)), .p (.sc (.string ⟨#[]⟩)), .p (.sc (.string ⟨#[]⟩)), .p (.sc (.string ⟨#[]⟩)), .p (.sc (.string ⟨#[]⟩)), .p (.sc (.string ⟨#[]⟩)), .p (.sc (.string ⟨#[]⟩)), .p (.sc (.string ⟨#[]⟩)), .p (.sc (.string ⟨#[]⟩)), .p (.sc (.string ⟨#[]⟩)), .p (.sc (.string ⟨#[]⟩)), .p (.sc (.string ⟨#[]⟩)), .p (.sc (.string ⟨#[]⟩)), .p (.sc (.string ⟨#[]⟩)), .p (.sc (.string ⟨#[]⟩)), .p (.sc (.string ⟨#[]⟩)), .p (.sc (.string ⟨#[]⟩)), .p (.sc (.string ⟨#[]⟩)), .p (.sc (.string ⟨#[]⟩)), .p (.sc (.string ⟨#[]⟩)), .p (.sc (.string ⟨#[]⟩)), .p (.sc (.string ⟨#[]⟩)), .p (.sc (.string ⟨#[]⟩)), .p (.sc (.string ⟨#[]⟩)), .p (.sc (.string ⟨#[]⟩)), .p (.sc (.string ⟨#[]⟩)), .p (.sc (.string ⟨#[]⟩)), .p (.sc (.string ⟨#[]⟩)), .p (.sc (.string ⟨#[]⟩)), .p (.sc (.string ⟨#[]⟩)), .p (.sc (.string ⟨#[]⟩)), .p (.sc (.string ⟨#[]⟩)), .p (.sc (.string ⟨#[]⟩)), .p (.sc (.string ⟨#[]⟩)), .p (.sc (.string ⟨#[]⟩)), .p (.sc (.string ⟨#[]⟩)), .p (.sc (.string ⟨#[]⟩)), .p (.sc (.string ⟨#[]⟩)), .p (.sc (.string ⟨#[]⟩)), .p (.sc (.string ⟨#[]⟩)), .p (.sc (.string ⟨#[]⟩)), .p (.sc (.string ⟨#[]⟩)), .p (.sc (.string ⟨#[]⟩)), .p (.sc (.string ⟨#[]⟩)), .p (.sc (.string ⟨#[]⟩)), .p (.sc (.string ⟨#[]⟩)), .p (.sc (.string ⟨#[]⟩)), .p (.sc (.string ⟨#[]⟩))], []⟩
theorem Awd2 : Does Tryd.prog envC Awc2.g Awc2.args Awc2.m Awc2.v Awc2.m' := does_fast names (K := AwK2) AwK2ok (n := 10000000) (by kernel_rfl)
def AwK3 : List Call' := Awc2 :: AwK2
theorem AwK3ok : Calls' Tryd.prog envC AwK3 := calls_cons Awd2 AwK2ok

def Awc3 : Call' := ⟨14, [.agg [.os none 2 2 [.sc (.int .i64 0), .sc (.int .i64 1), .sc (.int .i64 2), .sc (.int .i64 0)], .os none 1 3 [.sc (.string ⟨#[104, 111, 115, 116]⟩), .sc (.string ⟨#[102]⟩), .sc (.int .i64 1)], .os none 1 3 [.sc (.int .i64 0), .sc (.int .i64 0), .ps 1 8 [.sc (.int .i64 65), .sc (.int .i64 0), .sc (.int .u32 0), .sc (.int .u32 0), .sc (.int .i32 1), .ps 0 0 [], .ps 0 0 [], .ps 0 0 []]], .os none 0 0 [], .os none 0 0 [], .os none 0 0 [], .os none 1 3 [.sc (.string ⟨#[114, 117, 110]⟩), .sc (.int .i64 0), .sc (.int .u32 1)], .p (.sc (.bool false)), .p (.sc (.int .u32 0)), .os none 0 0 [], .os none 0 0 []]], [], .p (.sc (.int .i64 0)), []⟩
theorem Awd3 : Does Tryd.prog envC Awc3.g Awc3.args Awc3.m Awc3.v Awc3.m' := does_fast names (K := AwK3) AwK3ok (n := 10000000) (by kernel_rfl)
def AwK4 : List Call' := Awc3 :: AwK3
theorem AwK4ok : Calls' Tryd.prog envC AwK4 := calls_cons Awd3 AwK3ok

def Awc4 : Call' := ⟨16, [.agg [.os none 2 2 [.sc (.int .i64 0), .sc (.int .i64 1), .sc (.int .i64 2), .sc (.int .i64 0)], .os none 1 3 [.sc (.string ⟨#[104, 111, 115, 116]⟩), .sc (.string ⟨#[102]⟩), .sc (.int .i64 1)], .os none 1 3 [.sc (.int .i64 0), .sc (.int .i64 0), .ps 1 8 [.sc (.int .i64 65), .sc (.int .i64 0), .sc (.int .u32 0), .sc (.int .u32 0), .sc (.int .i32 1), .ps 0 0 [], .ps 0 0 [], .ps 0 0 []]], .os none 0 0 [], .os none 0 0 [], .os none 0 0 [], .os none 1 3 [.sc (.string ⟨#[114, 117, 110]⟩), .sc (.int .i64 0), .sc (.int .u32 1)], .p (.sc (.bool false)), .p (.sc (.int .u32 0)), .os none 0 0 [], .os none 0 0 []]], [], .p (.sc (.int .i64 0)), []⟩
theorem Awd4 : Does Tryd.prog envC Awc4.g Awc4.args Awc4.m Awc4.v Awc4.m' := does_fast names (K := AwK4) AwK4ok (n := 10000000) (by kernel_rfl)
def AwK5 : List Call' := Awc4 :: AwK4
theorem AwK5ok : Calls' Tryd.prog envC AwK5 := calls_cons Awd4 AwK4ok

theorem Awdoes : Does Tryd.prog envC 4 [] [] (.p (.sc (.bool true))) [] := does_fast names (K := AwK5) AwK5ok (n := 10000000) (by kernel_rfl)

end Go.Proofs.YtdmmllcjgjmbbaaDoor.N
end

section
set_option linter.unusedSimpArgs false
set_option linter.unusedVariables false
namespace Go.Proofs.YtdmmllcjgjmbbaaDoor.N
open Go Go.Am

def toS (M : Mo) (a : Nat) (T P Q : Int) : FuncId → Nat → Nat → Option (AV → AV) := shapeAt [(9, 5, 5, sI .i64 T), (9, 7, 5, sI .i64 T), (9, 10, 4, .agg [sI .i64 P, sI .i64 Q])]
def envL : Env where
  glob := tabAt tabs
  wr := wrs
  keep := keepAt [(3, 4, [2, 5, 6])]
def lwQ (M M2 : Mo) (w : Int) (lg : Bool) (c c2 k : Int) (i : Nat) (f : FuncId) (_ : List AV) (m : Mem) : Option (AV × Mem) :=
  cond (Nat.beq f 4) (some (sB true, m)) (cond (Nat.beq f 5) (some (sB lg, m)) (cond (Nat.beq f 6) (match i with | 2 => some (sI .i64 c, m) | _ => some (sI .i64 c2, m)) (cond (Nat.beq f 8) (some (sI .i64 k, m)) (cond (Nat.beq f 7) (some (.agg (M2.pvs.map .p), m)) none))))
def toldIn (l : List (Nat × Nat × AV)) (f d : Nat) : Option AV := match l with
  | [] => none
  | (f', d', v) :: r => cond (Nat.beq f f' && Nat.beq d d') (some v) (toldIn r f d)
def lvE (M : Mo) (i : Nat) (T P Q : Int) : Env where
  glob := tabAt tabs
  wr := wrs
  keep := keepAt [(3, 4, [2, 5, 6])]
  told := toldIn [(3, 48, sI .i64 T), (3, 53, sB false), (3, 65, sI .i64 T), (3, 68, sB false)]
noncomputable def pckOrc : Orc := orcL noCall noLed [] [(8, 0, 1)] []
def pckSc : Sc := .fin
noncomputable def pckTree (r : Int) : Tree :=
 (.test (decide (r.tmod 9 < 0))
 (.out (.ret (sI .i64 (IntKind.i64.wrap (r.tmod 9 + 9))) []))
 (.out (.ret (sI .i64 (r.tmod 9)) [])))
theorem pck_tree (r : Int) : growF Tryd.prog env pckOrc 1000000 8 ([sI IntKind.i64 r, sI IntKind.i64 9]) ([]) pckSc = pckTree r := by kernel_rfl

noncomputable def lesOrc : Orc := orcL noCall noLed [] [(7, 2, 3), (7, 0, 0), (7, 4, 3), (7, 6, 3), (7, 0, 3), (7, 11, 3), (7, 13, 3), (7, 15, 3), (7, 17, 3), (7, 0, 8), (7, 0, 1), (7, 0, 2), (7, 0, 4), (7, 0, 5), (7, 0, 6), (7, 0, 7)] [(7, 3, 6), (7, 5, 6), (7, 7, 6), (7, 12, 6), (7, 14, 6), (7, 16, 6), (7, 18, 6)]
def lesSc : Sc := (.fork (.fork .fin (.no (.lit (.no (.lit (.no (.no (.lit (.no (.lit (.no (.lit (.no (.lit (.no .fin))))))))))))))) (.lit (.fork (.fork .fin (.no (.lit (.no (.no (.lit (.no (.lit (.no (.lit (.no (.lit (.no .fin))))))))))))) (.lit (.fork (.fork .fin (.no (.no (.lit (.no (.lit (.no (.lit (.no (.lit (.no .fin))))))))))) (.lit (.fork .fin (.fork (.fork .fin (.no (.lit (.no (.lit (.no (.lit (.no .fin)))))))) (.lit (.fork (.fork .fin (.no (.lit (.no (.lit (.no .fin)))))) (.lit (.fork (.fork .fin (.no (.lit (.no .fin)))) (.lit (.fork (.fork .fin (.no .fin)) (.lit .fin)))))))))))))))
noncomputable def lesTree (M : Mo) (i : Int) : Tree :=
 (.test (i == 0)
 (.test (decide ((↑M.tys.length : Int) > 0))
 (.must (decide (0 ≤ IntKind.i64.wrap ((↑M.tys.length : Int) - 1)) && true && (IntKind.i64.wrap ((↑M.tys.length : Int) - 1)).toNat.ble M.tys.length && true && true)
 (.out (.ret (.agg [.p (.ps ((IntKind.i64.wrap ((↑M.tys.length : Int) - 1)).toNat - 0) 2 (cut (List.flatMap encTy M.tys) (times none 0 2) (times (some (Operand.tmp 19)) (IntKind.i64.wrap ((↑M.tys.length : Int) - 1)).toNat 2))), .p (.ps M.ims.length 3 (List.flatMap encIm M.ims)), .p (.ps M.fns.length 3 (List.flatMap encFu M.fns)), .p (.ps M.tas.length 3 (List.flatMap encLi M.tas)), .p (.ps M.mes.length 3 (List.flatMap encLi M.mes)), .p (.ps M.gls.length 2 (List.flatMap encGl M.gls)), .p (.ps M.exs.length 3 (List.flatMap encEx M.exs)), .p (.sc (.bool M.st)), sI .u32 M.sn, .p (.ps M.els.length 2 (List.flatMap encEl M.els)), .p (.ps M.das.length 2 (List.flatMap encDa M.das))]) [])))
 (.must (!(i == 1))
 (.must (!(i == 2))
 (.must (!(i == 3))
 (.must (!(i == 4))
 (.must (!(i == 5))
 (.must (!(i == 6))
 (.must (!(i == 7))
 (.must (!(i == 8))
 (.out (.ret (.agg (List.map AV.p M.pvs)) [])))))))))))
 (.test (i == 1)
 (.test (decide ((↑M.ims.length : Int) > 0))
 (.must (decide (0 ≤ IntKind.i64.wrap ((↑M.ims.length : Int) - 1)) && true && (IntKind.i64.wrap ((↑M.ims.length : Int) - 1)).toNat.ble M.ims.length && true && true)
 (.out (.ret (.agg [.p (.ps M.tys.length 2 (List.flatMap encTy M.tys)), .p (.ps ((IntKind.i64.wrap ((↑M.ims.length : Int) - 1)).toNat - 0) 3 (cut (List.flatMap encIm M.ims) (times none 0 3) (times (some (Operand.tmp 36)) (IntKind.i64.wrap ((↑M.ims.length : Int) - 1)).toNat 3))), .p (.ps M.fns.length 3 (List.flatMap encFu M.fns)), .p (.ps M.tas.length 3 (List.flatMap encLi M.tas)), .p (.ps M.mes.length 3 (List.flatMap encLi M.mes)), .p (.ps M.gls.length 2 (List.flatMap encGl M.gls)), .p (.ps M.exs.length 3 (List.flatMap encEx M.exs)), .p (.sc (.bool M.st)), sI .u32 M.sn, .p (.ps M.els.length 2 (List.flatMap encEl M.els)), .p (.ps M.das.length 2 (List.flatMap encDa M.das))]) [])))
 (.must (!(i == 2))
 (.must (!(i == 3))
 (.must (!(i == 4))
 (.must (!(i == 5))
 (.must (!(i == 6))
 (.must (!(i == 7))
 (.must (!(i == 8))
 (.out (.ret (.agg (List.map AV.p M.pvs)) []))))))))))
 (.test (i == 2)
 (.test (decide ((↑M.fns.length : Int) > 0))
 (.must (decide (0 ≤ IntKind.i64.wrap ((↑M.fns.length : Int) - 1)) && true && (IntKind.i64.wrap ((↑M.fns.length : Int) - 1)).toNat.ble M.fns.length && true && true)
 (.out (.ret (.agg [.p (.ps M.tys.length 2 (List.flatMap encTy M.tys)), .p (.ps M.ims.length 3 (List.flatMap encIm M.ims)), .p (.ps ((IntKind.i64.wrap ((↑M.fns.length : Int) - 1)).toNat - 0) 3 (cut (List.flatMap encFu M.fns) (times none 0 3) (times (some (Operand.tmp 53)) (IntKind.i64.wrap ((↑M.fns.length : Int) - 1)).toNat 3))), .p (.ps M.tas.length 3 (List.flatMap encLi M.tas)), .p (.ps M.mes.length 3 (List.flatMap encLi M.mes)), .p (.ps M.gls.length 2 (List.flatMap encGl M.gls)), .p (.ps M.exs.length 3 (List.flatMap encEx M.exs)), .p (.sc (.bool M.st)), sI .u32 M.sn, .p (.ps M.els.length 2 (List.flatMap encEl M.els)), .p (.ps M.das.length 2 (List.flatMap encDa M.das))]) [])))
 (.must (!(i == 3))
 (.must (!(i == 4))
 (.must (!(i == 5))
 (.must (!(i == 6))
 (.must (!(i == 7))
 (.must (!(i == 8))
 (.out (.ret (.agg (List.map AV.p M.pvs)) [])))))))))
 (.test (i == 3)
 (.out (.ret (.agg [.p (.ps M.tys.length 2 (List.flatMap encTy M.tys)), .p (.ps M.ims.length 3 (List.flatMap encIm M.ims)), .p (.ps M.fns.length 3 (List.flatMap encFu M.fns)), .os none 0 0 [], .os none 0 0 [], .p (.ps M.gls.length 2 (List.flatMap encGl M.gls)), .p (.ps M.exs.length 3 (List.flatMap encEx M.exs)), .p (.sc (.bool M.st)), sI .u32 M.sn, .p (.ps M.els.length 2 (List.flatMap encEl M.els)), .p (.ps M.das.length 2 (List.flatMap encDa M.das))]) []))
 (.test (i == 4)
 (.test (decide ((↑M.gls.length : Int) > 0))
 (.must (decide (0 ≤ IntKind.i64.wrap ((↑M.gls.length : Int) - 1)) && true && (IntKind.i64.wrap ((↑M.gls.length : Int) - 1)).toNat.ble M.gls.length && true && true)
 (.out (.ret (.agg [.p (.ps M.tys.length 2 (List.flatMap encTy M.tys)), .p (.ps M.ims.length 3 (List.flatMap encIm M.ims)), .p (.ps M.fns.length 3 (List.flatMap encFu M.fns)), .p (.ps M.tas.length 3 (List.flatMap encLi M.tas)), .p (.ps M.mes.length 3 (List.flatMap encLi M.mes)), .p (.ps ((IntKind.i64.wrap ((↑M.gls.length : Int) - 1)).toNat - 0) 2 (cut (List.flatMap encGl M.gls) (times none 0 2) (times (some (Operand.tmp 75)) (IntKind.i64.wrap ((↑M.gls.length : Int) - 1)).toNat 2))), .p (.ps M.exs.length 3 (List.flatMap encEx M.exs)), .p (.sc (.bool M.st)), sI .u32 M.sn, .p (.ps M.els.length 2 (List.flatMap encEl M.els)), .p (.ps M.das.length 2 (List.flatMap encDa M.das))]) [])))
 (.must (!(i == 5))
 (.must (!(i == 6))
 (.must (!(i == 7))
 (.must (!(i == 8))
 (.out (.ret (.agg (List.map AV.p M.pvs)) [])))))))
 (.test (i == 5)
 (.test (decide ((↑M.exs.length : Int) > 0))
 (.must (decide (0 ≤ IntKind.i64.wrap ((↑M.exs.length : Int) - 1)) && true && (IntKind.i64.wrap ((↑M.exs.length : Int) - 1)).toNat.ble M.exs.length && true && true)
 (.out (.ret (.agg [.p (.ps M.tys.length 2 (List.flatMap encTy M.tys)), .p (.ps M.ims.length 3 (List.flatMap encIm M.ims)), .p (.ps M.fns.length 3 (List.flatMap encFu M.fns)), .p (.ps M.tas.length 3 (List.flatMap encLi M.tas)), .p (.ps M.mes.length 3 (List.flatMap encLi M.mes)), .p (.ps M.gls.length 2 (List.flatMap encGl M.gls)), .p (.ps ((IntKind.i64.wrap ((↑M.exs.length : Int) - 1)).toNat - 0) 3 (cut (List.flatMap encEx M.exs) (times none 0 3) (times (some (Operand.tmp 92)) (IntKind.i64.wrap ((↑M.exs.length : Int) - 1)).toNat 3))), .p (.sc (.bool M.st)), sI .u32 M.sn, .p (.ps M.els.length 2 (List.flatMap encEl M.els)), .p (.ps M.das.length 2 (List.flatMap encDa M.das))]) [])))
 (.must (!(i == 6))
 (.must (!(i == 7))
 (.must (!(i == 8))
 (.out (.ret (.agg (List.map AV.p M.pvs)) []))))))
 (.test (i == 6)
 (.test (decide ((↑M.els.length : Int) > 0))
 (.must (decide (0 ≤ IntKind.i64.wrap ((↑M.els.length : Int) - 1)) && true && (IntKind.i64.wrap ((↑M.els.length : Int) - 1)).toNat.ble M.els.length && true && true)
 (.out (.ret (.agg [.p (.ps M.tys.length 2 (List.flatMap encTy M.tys)), .p (.ps M.ims.length 3 (List.flatMap encIm M.ims)), .p (.ps M.fns.length 3 (List.flatMap encFu M.fns)), .p (.ps M.tas.length 3 (List.flatMap encLi M.tas)), .p (.ps M.mes.length 3 (List.flatMap encLi M.mes)), .p (.ps M.gls.length 2 (List.flatMap encGl M.gls)), .p (.ps M.exs.length 3 (List.flatMap encEx M.exs)), .p (.sc (.bool M.st)), sI .u32 M.sn, .p (.ps ((IntKind.i64.wrap ((↑M.els.length : Int) - 1)).toNat - 0) 2 (cut (List.flatMap encEl M.els) (times none 0 2) (times (some (Operand.tmp 109)) (IntKind.i64.wrap ((↑M.els.length : Int) - 1)).toNat 2))), .p (.ps M.das.length 2 (List.flatMap encDa M.das))]) [])))
 (.must (!(i == 7))
 (.must (!(i == 8))
 (.out (.ret (.agg (List.map AV.p M.pvs)) [])))))
 (.test (i == 7)
 (.test (decide ((↑M.das.length : Int) > 0))
 (.must (decide (0 ≤ IntKind.i64.wrap ((↑M.das.length : Int) - 1)) && true && (IntKind.i64.wrap ((↑M.das.length : Int) - 1)).toNat.ble M.das.length && true && true)
 (.out (.ret (.agg [.p (.ps M.tys.length 2 (List.flatMap encTy M.tys)), .p (.ps M.ims.length 3 (List.flatMap encIm M.ims)), .p (.ps M.fns.length 3 (List.flatMap encFu M.fns)), .p (.ps M.tas.length 3 (List.flatMap encLi M.tas)), .p (.ps M.mes.length 3 (List.flatMap encLi M.mes)), .p (.ps M.gls.length 2 (List.flatMap encGl M.gls)), .p (.ps M.exs.length 3 (List.flatMap encEx M.exs)), .p (.sc (.bool M.st)), sI .u32 M.sn, .p (.ps M.els.length 2 (List.flatMap encEl M.els)), .p (.ps ((IntKind.i64.wrap ((↑M.das.length : Int) - 1)).toNat - 0) 2 (cut (List.flatMap encDa M.das) (times none 0 2) (times (some (Operand.tmp 126)) (IntKind.i64.wrap ((↑M.das.length : Int) - 1)).toNat 2)))]) [])))
 (.must (!(i == 8))
 (.out (.ret (.agg (List.map AV.p M.pvs)) []))))
 (.test (i == 8)
 (.out (.ret (.agg [.p (.ps M.tys.length 2 (List.flatMap encTy M.tys)), .p (.ps M.ims.length 3 (List.flatMap encIm M.ims)), .p (.ps M.fns.length 3 (List.flatMap encFu M.fns)), .p (.ps M.tas.length 3 (List.flatMap encLi M.tas)), .p (.ps M.mes.length 3 (List.flatMap encLi M.mes)), .p (.ps M.gls.length 2 (List.flatMap encGl M.gls)), .p (.ps M.exs.length 3 (List.flatMap encEx M.exs)), sB false, sI .u32 0, .p (.ps M.els.length 2 (List.flatMap encEl M.els)), .p (.ps M.das.length 2 (List.flatMap encDa M.das))]) []))
 (.out (.ret (.agg (List.map AV.p M.pvs)) [])))))))))))
theorem les_tree (M : Mo) (i : Int) : growF Tryd.prog env lesOrc 1000000 7 ([AV.agg (List.map AV.p M.pvs), sI IntKind.i64 i]) ([]) lesSc = lesTree M i := by kernel_rfl

noncomputable def tofOrc (M : Mo) (a : Nat) (T P Q : Int) : Orc := orcS noCall noLed [] [(9, 0, 0), (9, 8, 3), (9, 0, 2), (9, 0, 1)] [(9, 5, 3), (9, 5, 5), (9, 10, 3), (9, 10, 4), (9, 7, 3), (9, 7, 5)] (toS M a T P Q)
def tofSc : Sc := (.fork (.fork (.lit .fin) .fin) (.fork (.fork (.lit .fin) .fin) (.lit (.lit .fin))))
noncomputable def tofTree (M : Mo) (a : Nat) (T P Q : Int) : Tree :=
 (.test (decide (IntKind.i64.wrap (IntKind.i64.wrap (↑a : Int) - (↑M.ims.length : Int)) < 0))
 (.must (inB (IntKind.i64.wrap (↑a : Int)) M.ims.length && true && true)
 (.must (isInt IntKind.i64 ((List.flatMap encIm M.ims).getD ((IntKind.i64.wrap (↑a : Int)).toNat * 3 + 2) PV.bad) && true)
 (.need (sI .i64 (pvInt ((List.flatMap encIm M.ims).getD ((IntKind.i64.wrap (↑a : Int)).toNat * 3 + 2) PV.bad)) = sI IntKind.i64 T)
 (.test (decide (T < 0))
 (.out (.ret (.tup [.agg [sI .i64 0, sI .i64 0], sB false]) []))
 (.test (decide (T ≥ (↑M.tys.length : Int)))
 (.out (.ret (.tup [.agg [sI .i64 0, sI .i64 0], sB false]) []))
 (.must (inB T M.tys.length && true && true)
 (.must (isInt IntKind.i64 ((List.flatMap encTy M.tys).getD (T.toNat * 2) PV.bad) && (isInt IntKind.i64 ((List.flatMap encTy M.tys).getD (T.toNat * 2 + 1) PV.bad) && true) && true)
 (.need (AV.agg [sI .i64 (pvInt ((List.flatMap encTy M.tys).getD (T.toNat * 2) PV.bad)), sI .i64 (pvInt ((List.flatMap encTy M.tys).getD (T.toNat * 2 + 1) PV.bad))] = AV.agg [sI IntKind.i64 P, sI IntKind.i64 Q])
 (.out (.ret (.tup [.agg [sI .i64 P, sI .i64 Q], sB true]) []))))))))))
 (.test (decide (IntKind.i64.wrap (IntKind.i64.wrap (↑a : Int) - (↑M.ims.length : Int)) < (↑M.fns.length : Int)))
 (.must (inB (IntKind.i64.wrap (IntKind.i64.wrap (↑a : Int) - (↑M.ims.length : Int))) M.fns.length && true && true)
 (.must (isInt IntKind.i64 ((List.flatMap encFu M.fns).getD ((IntKind.i64.wrap (IntKind.i64.wrap (↑a : Int) - (↑M.ims.length : Int))).toNat * 3 + 0) PV.bad) && true)
 (.need (sI .i64 (pvInt ((List.flatMap encFu M.fns).getD ((IntKind.i64.wrap (IntKind.i64.wrap (↑a : Int) - (↑M.ims.length : Int))).toNat * 3 + 0) PV.bad)) = sI IntKind.i64 T)
 (.test (decide (T < 0))
 (.out (.ret (.tup [.agg [sI .i64 0, sI .i64 0], sB false]) []))
 (.test (decide (T ≥ (↑M.tys.length : Int)))
 (.out (.ret (.tup [.agg [sI .i64 0, sI .i64 0], sB false]) []))
 (.must (inB T M.tys.length && true && true)
 (.must (isInt IntKind.i64 ((List.flatMap encTy M.tys).getD (T.toNat * 2) PV.bad) && (isInt IntKind.i64 ((List.flatMap encTy M.tys).getD (T.toNat * 2 + 1) PV.bad) && true) && true)
 (.need (AV.agg [sI .i64 (pvInt ((List.flatMap encTy M.tys).getD (T.toNat * 2) PV.bad)), sI .i64 (pvInt ((List.flatMap encTy M.tys).getD (T.toNat * 2 + 1) PV.bad))] = AV.agg [sI IntKind.i64 P, sI IntKind.i64 Q])
 (.out (.ret (.tup [.agg [sI .i64 P, sI .i64 Q], sB true]) []))))))))))
 (.out (.ret (.tup [.agg [sI .i64 0, sI .i64 0], sB false]) []))))
theorem tof_tree (M : Mo) (a : Nat) (T P Q : Int) : growF Tryd.prog env (tofOrc M a T P Q) 1000000 9 ([AV.agg (List.map AV.p M.pvs), sI IntKind.u32 (↑a : Int)]) ([]) tofSc = tofTree M a T P Q := by kernel_rfl

noncomputable def lwlOrc : Orc := orcL noCall noLed [(3, 2)] [(3, 3, 3), (3, 0, 0), (3, 0, 1)] []
noncomputable def lwlSc (M : Mo) (M2 : Mo) (w : Int) (lg : Bool) (c c2 k : Int) : Sc := (.ans 4 (sB true) ([]) (.ans 5 (.p (.sc (.bool lg))) ([]) (.fork (.lit .fin) (.ans 6 (sI .i64 c) ([]) (.fork .fin (.led 3 4 (lwQ M M2 w lg c c2 k 3) .fin))))))
noncomputable def lwlTree (M : Mo) (M2 : Mo) (w : Int) (lg : Bool) (c c2 k : Int) : Tree :=
 (.call ⟨4, [], [], sB true, []⟩
 (.call ⟨5, [.agg (List.map AV.p M.pvs), sI .i64 5000], [], .p (.sc (.bool lg)), []⟩
 (.test (lg)
 (.out (.ret (sB true) []))
 (.call ⟨6, [.agg (List.map AV.p M.pvs)], [], sI .i64 c, []⟩
 (.test (c != 0)
 (.out (.ret (sB true) []))
 (.call ⟨8, [sI .i64 w, sI .i64 9], [], sI .i64 k, []⟩
 (.call ⟨7, [.agg (List.map AV.p M.pvs), sI .i64 k], [], .agg (List.map AV.p M2.pvs), []⟩
 (.call ⟨6, [.agg (List.map AV.p M2.pvs)], [], sI .i64 c2, []⟩
 (.test (c2 != 0)
 (.out (.ret (sB false) []))
 (.at (bodyCfg Tryd.prog envL 3 2 [.mp 0 0, sB true, sI .i64 0] ([.pc M.pvs]) 0 72)))))))))))
theorem lwl_tree (M : Mo) (M2 : Mo) (w : Int) (lg : Bool) (c c2 k : Int) : growF Tryd.prog envL lwlOrc 1000000 3 ([AV.agg (List.map AV.p M.pvs), sI IntKind.i64 w]) ([]) (lwlSc M M2 w lg c c2 k) = lwlTree M M2 w lg c c2 k := by kernel_rfl

noncomputable def lvtOrc : Orc := orcL noCall noLed [(3, 2)] [(3, 0, 3)] [(3, 0, 4)]
noncomputable def lvtSc (M : Mo) (i : Nat) (T P Q : Int) : Sc := (.fork (.ans 9 (.tup [.agg [sI .i64 P, sI .i64 Q], sB true]) ([]) .fin) .fin)
noncomputable def lvtTree (M : Mo) (i : Nat) (T P Q : Int) : Tree :=
 (.test (decide ((↑i : Int) < (↑M.fns.length : Int)))
 (.call ⟨9, [.agg (List.map AV.p M.pvs), sI .u32 (IntKind.u32.wrap (IntKind.i64.wrap ((↑M.ims.length : Int) + (↑i : Int))))], [], .tup [.agg [sI .i64 P, sI .i64 Q], sB true], []⟩
 (.must (inB (↑i : Int) M.fns.length && true && true && (isInt IntKind.i64 ((List.flatMap encFu M.fns).getD ((↑i : Int).toNat * 3 + 0) PV.bad) && true && eqAV (sI .i64 (pvInt ((List.flatMap encFu M.fns).getD ((↑i : Int).toNat * 3 + 0) PV.bad))) (sI .i64 T) && (eqAV (.p (.sc (.bool !true == decide (T < (↑M.tys.length : Int))))) (sB false) && (inB (↑i : Int) M.fns.length && true && true && (isInt IntKind.i64 ((List.flatMap encFu M.fns).getD ((↑i : Int).toNat * 3 + 0) PV.bad) && true && eqAV (sI .i64 (pvInt ((List.flatMap encFu M.fns).getD ((↑i : Int).toNat * 3 + 0) PV.bad))) (sI .i64 T) && (inB T M.tys.length && true && true && (isInt IntKind.i64 ((List.flatMap encTy M.tys).getD (T.toNat * 2) PV.bad) && (isInt IntKind.i64 ((List.flatMap encTy M.tys).getD (T.toNat * 2 + 1) PV.bad) && true) && true && (eqAV (.p (.sc (.bool !(fun r => P == pvInt ((List.flatMap encTy M.tys).getD (T.toNat * 2) PV.bad) && r) ((fun r => Q == pvInt ((List.flatMap encTy M.tys).getD (T.toNat * 2 + 1) PV.bad) && r) true)))) (sB false) && true))))))) && true)
 (.at (bodyCfg Tryd.prog (lvE M i T P Q) 3 2 [.mp 0 0, sB true, sI .i64 (IntKind.i64.wrap ((↑i : Int) + 1))] ([.pc M.pvs]) 0 72))))
 (.out (.ret (sB true) [])))
theorem lvt_tree (M : Mo) (i : Nat) (T P Q : Int) : grow Tryd.prog (lvE M i T P Q) lvtOrc 1000000 true (bodyCfg Tryd.prog (lvE M i T P Q) 3 2 ([AV.mp 0 0, sB true, sI IntKind.i64 (↑i : Int)]) ([Blk.pc M.pvs]) 0 72) (lvtSc M i T P Q) atEnd = lvtTree M i T P Q := by kernel_rfl

noncomputable def lvfOrc : Orc := orcL noCall noLed [(3, 2)] [(3, 0, 3)] [(3, 0, 4)]
noncomputable def lvfSc (M : Mo) (i : Nat) (T P Q : Int) : Sc := (.fork (.ans 9 (.tup [.agg [sI .i64 0, sI .i64 0], sB false]) ([]) .fin) .fin)
noncomputable def lvfTree (M : Mo) (i : Nat) (T P Q : Int) : Tree :=
 (.test (decide ((↑i : Int) < (↑M.fns.length : Int)))
 (.call ⟨9, [.agg (List.map AV.p M.pvs), sI .u32 (IntKind.u32.wrap (IntKind.i64.wrap ((↑M.ims.length : Int) + (↑i : Int))))], [], .tup [.agg [sI .i64 0, sI .i64 0], sB false], []⟩
 (.must (inB (↑i : Int) M.fns.length && true && true && (isInt IntKind.i64 ((List.flatMap encFu M.fns).getD ((↑i : Int).toNat * 3 + 0) PV.bad) && true && eqAV (sI .i64 (pvInt ((List.flatMap encFu M.fns).getD ((↑i : Int).toNat * 3 + 0) PV.bad))) (sI .i64 T) && (eqAV (.p (.sc (.bool !false == decide (T < (↑M.tys.length : Int))))) (sB false) && true)) && true)
 (.at (bodyCfg Tryd.prog (lvE M i T P Q) 3 2 [.mp 0 0, sB true, sI .i64 (IntKind.i64.wrap ((↑i : Int) + 1))] ([.pc M.pvs]) 0 72))))
 (.out (.ret (sB true) [])))
theorem lvf_tree (M : Mo) (i : Nat) (T P Q : Int) : grow Tryd.prog (lvE M i T P Q) lvfOrc 1000000 true (bodyCfg Tryd.prog (lvE M i T P Q) 3 2 ([AV.mp 0 0, sB true, sI IntKind.i64 (↑i : Int)]) ([Blk.pc M.pvs]) 0 72) (lvfSc M i T P Q) atEnd = lvfTree M i T P Q := by kernel_rfl

def Wle (a b : AV) : Prop := ∀ (g : Gh) (w : World) (v : Value), VA g w a v → VA { g with blk := fun _ => none } w b v
theorem Wle.p {x y : PV} (h : Ple x y) : Wle (.p x) (.p y) := fun g w v hv => by
  cases hv with
  | p _ _ hv => exact .p _ _ (VP.mono (g := g) (g' := { g with blk := fun _ => none }) (w := w) (w' := w) (fun _ _ q => ⟨q, rfl⟩) (h _ _ _ hv))
theorem Wle.os {tok : Option Nat} {n z : Nat} {cs : List PV} {y : PV} (h : Ple (.ps n z cs) y) : Wle (.os tok n z cs) (.p y) := fun g w v hv => by
  cases hv with
  | os _ _ _ _ a cap hv _ => exact .p _ _ (VP.mono (g := g) (g' := { g with blk := fun _ => none }) (w := w) (w' := w) (fun _ _ q => ⟨q, rfl⟩) (h _ _ _ hv))
theorem wles {l l' : List AV} (h : All2 Wle l l') (g : Gh) (w : World) : ∀ {vs : List Value}, VAs g w l vs → VAs { g with blk := fun _ => none } w l' vs := by
  induction l generalizing l' with
  | nil => intro vs hv; cases l' with
    | nil => cases vs with
      | nil => trivial
      | cons _ _ => exact hv.elim
    | cons _ _ => exact h.elim
  | cons a l ih => intro vs hv; cases l' with
    | nil => exact h.elim
    | cons b l' => cases vs with
      | nil => exact hv.elim
      | cons v vs => exact ⟨h.1 g w v hv.1, ih h.2 hv.2⟩
theorem Does.weakL {f : FuncId} {args l l' : List AV} {m' : Mem} (h : Does Tryd.prog env f args [] (.agg l) m') (hl : All2 Wle l l') : Does Tryd.prog env f args [] (.agg l') [] :=
  h.weak fun g w cv q => by
    cases q with
    | agg _ cs hn hc => exact VA.aggs.2 (wles hl g w (All2.of_get hn hc))

theorem flat_take {α : Type} {z : Nat} {enc : α → List PV} (hz : ∀ x, (enc x).length = z) : ∀ (l : List α) (n : Nat), (l.flatMap enc).take (n * z) = (l.take n).flatMap enc
  | [], n => by simp
  | x :: r, 0 => by simp
  | x :: r, n + 1 => by
    rw [List.take_succ_cons, List.flatMap_cons, List.flatMap_cons, show (n + 1) * z = z + n * z by rw [Nat.add_mul]; omega, List.take_append, hz, List.take_of_length_le (by rw [hz]; omega), show z + n * z - z = n * z by omega, flat_take hz r n]

theorem cut_less {α : Type} {z : Nat} {enc : α → List PV} (hz : ∀ x, (enc x).length = z) (l : List α) (hl : 0 < l.length) (h : l.length ≤ 1000000) (t : Operand) :
    (AV.p (.ps ((IntKind.i64.wrap ((l.length : Int) - 1)).toNat - 0) z (cut (l.flatMap enc) (times none 0 z) (times (some t) (IntKind.i64.wrap ((l.length : Int) - 1)).toNat z)))) = .p (.ps l.dropLast.length z (l.dropLast.flatMap enc)) := by
  have w : IntKind.i64.wrap ((l.length : Int) - 1) = ((l.length - 1 : Nat) : Int) := by rw [i64In (by omega) (by omega)]; omega
  rw [w, Int.toNat_natCast]
  show AV.p (.ps (l.length - 1 - 0) z ((l.flatMap enc).take ((l.length - 1) * z))) = _
  rw [flat_take hz, List.length_dropLast, List.dropLast_eq_take, Nat.sub_zero]

theorem pick_does (r : Int) : ∃ k : Int, Does Tryd.prog env 8 [sI .i64 r, sI .i64 9] [] (sI .i64 k) [] := by
  have tr := pck_tree r
  by_cases h : decide (r.tmod 9 < 0) = true
  · exact ⟨_, does_of_tree names tr (v := sI .i64 (IntKind.i64.wrap (r.tmod 9 + 9))) ⟨fun _ => rfl, fun q => by rw [h] at q; cases q⟩⟩
  · exact ⟨_, does_of_tree names tr (v := sI .i64 (r.tmod 9)) ⟨fun q => absurd q h, fun _ => rfl⟩⟩

theorem less_does (M : Mo) (hM : M.fit) (i : Int) : Does Tryd.prog env 7 [.agg (M.pvs.map .p), sI .i64 i] [] (.agg ((lessF M i).pvs.map .p)) [] := by
  have h0 := hM.tys; have h1 := hM.ims; have h2 := hM.fns; have h4 := hM.gls; have h5 := hM.exs; have h6 := hM.els; have h7 := hM.das
  have mu : ∀ n : Nat, 0 < n → n ≤ 1000000 → (decide (0 ≤ IntKind.i64.wrap ((n : Int) - 1)) && true && (IntKind.i64.wrap ((n : Int) - 1)).toNat.ble n && true && true) = true := fun n a b => by
    rw [i64In (n := (n : Int) - 1) (by omega) (by omega)]
    simp only [Bool.and_true, Bool.and_eq_true, decide_eq_true_eq, Nat.ble_eq]
    omega
  by_cases e3 : i = 3
  · subst e3
    have hl : lessF M 3 = { M with tas := [], mes := [] } := by simp [lessF]
    rw [hl]
    refine Does.weakL (l := [.p (.ps M.tys.length 2 (M.tys.flatMap encTy)), .p (.ps M.ims.length 3 (M.ims.flatMap encIm)), .p (.ps M.fns.length 3 (M.fns.flatMap encFu)), .os none 0 0 [], .os none 0 0 [], .p (.ps M.gls.length 2 (M.gls.flatMap encGl)), .p (.ps M.exs.length 3 (M.exs.flatMap encEx)), .p (.sc (.bool M.st)), sI .u32 M.sn, .p (.ps M.els.length 2 (M.els.flatMap encEl)), .p (.ps M.das.length 2 (M.das.flatMap encDa))]) (m' := []) (does_of_tree names (les_tree M 3) ?_)
      ⟨.p (.refl _), .p (.refl _), .p (.refl _), .os .nil, .os .nil, .p (.refl _), .p (.refl _), .p (.refl _), .p (.refl _), .p (.refl _), .p (.refl _), trivial⟩
    simp [lesTree, Tree.ok]
  · refine does_of_tree names (les_tree M i) ?_
    simp only [lesTree, Tree.ok]
    unfold lessF
    refine ⟨fun q => ?_, fun q => ⟨fun q1 => ?_, fun q1 => ⟨fun q2 => ?_, fun q2 => ⟨fun q3 => ?_, fun q3 => ⟨fun q4 => ?_, fun q4 => ⟨fun q5 => ?_, fun q5 => ⟨fun q6 => ?_, fun q6 => ⟨fun q7 => ?_, fun q7 => ⟨fun q8 => ?_, fun q8 => ?_⟩⟩⟩⟩⟩⟩⟩⟩⟩ <;> simp only [beq_iff_eq, beq_eq_false_iff_ne, ne_eq] at *
    · subst q
      refine ⟨fun r => ?_, fun r => ?_⟩ <;> simp only [decide_eq_true_eq, decide_eq_false_iff_not] at r
      · have r : 0 < M.tys.length := by omega
        rw [cut_less (enc := encTy) (fun _ => rfl) M.tys r h0]
        exact ⟨mu _ r h0, by rw [if_pos ⟨rfl, r⟩]; rfl⟩
      · have r : ¬ M.tys.length > 0 := by omega
        simp [r]
    · subst q1
      refine ⟨fun r => ?_, fun r => ?_⟩ <;> simp only [decide_eq_true_eq, decide_eq_false_iff_not] at r
      · have r : 0 < M.ims.length := by omega
        rw [cut_less (enc := encIm) (fun _ => rfl) M.ims r h1]
        exact ⟨mu _ r h1, by rw [if_neg (by simp), if_pos ⟨rfl, r⟩]; rfl⟩
      · have r : ¬ M.ims.length > 0 := by omega
        simp [r]
    · subst q2
      refine ⟨fun r => ?_, fun r => ?_⟩ <;> simp only [decide_eq_true_eq, decide_eq_false_iff_not] at r
      · have r : 0 < M.fns.length := by omega
        rw [cut_less (enc := encFu) (fun _ => rfl) M.fns r h2]
        exact ⟨mu _ r h2, by rw [if_neg (by simp), if_neg (by simp), if_pos ⟨rfl, r⟩]; rfl⟩
      · have r : ¬ M.fns.length > 0 := by omega
        simp [r]
    · exact absurd q3 e3
    · subst q4
      refine ⟨fun r => ?_, fun r => ?_⟩ <;> simp only [decide_eq_true_eq, decide_eq_false_iff_not] at r
      · have r : 0 < M.gls.length := by omega
        rw [cut_less (enc := encGl) (fun _ => rfl) M.gls r h4]
        exact ⟨mu _ r h4, by rw [if_neg (by simp), if_neg (by simp), if_neg (by simp), if_neg (by simp), if_pos ⟨rfl, r⟩]; rfl⟩
      · have r : ¬ M.gls.length > 0 := by omega
        simp [r]
    · subst q5
      refine ⟨fun r => ?_, fun r => ?_⟩ <;> simp only [decide_eq_true_eq, decide_eq_false_iff_not] at r
      · have r : 0 < M.exs.length := by omega
        rw [cut_less (enc := encEx) (fun _ => rfl) M.exs r h5]
        exact ⟨mu _ r h5, by rw [if_neg (by simp), if_neg (by simp), if_neg (by simp), if_neg (by simp), if_neg (by simp), if_pos ⟨rfl, r⟩]; rfl⟩
      · have r : ¬ M.exs.length > 0 := by omega
        simp [r]
    · subst q6
      refine ⟨fun r => ?_, fun r => ?_⟩ <;> simp only [decide_eq_true_eq, decide_eq_false_iff_not] at r
      · have r : 0 < M.els.length := by omega
        rw [cut_less (enc := encEl) (fun _ => rfl) M.els r h6]
        exact ⟨mu _ r h6, by rw [if_neg (by simp), if_neg (by simp), if_neg (by simp), if_neg (by simp), if_neg (by simp), if_neg (by simp), if_pos ⟨rfl, r⟩]; rfl⟩
      · have r : ¬ M.els.length > 0 := by omega
        simp [r]
    · subst q7
      refine ⟨fun r => ?_, fun r => ?_⟩ <;> simp only [decide_eq_true_eq, decide_eq_false_iff_not] at r
      · have r : 0 < M.das.length := by omega
        rw [cut_less (enc := encDa) (fun _ => rfl) M.das r h7]
        exact ⟨mu _ r h7, by rw [if_neg (by simp), if_neg (by simp), if_neg (by simp), if_neg (by simp), if_neg (by simp), if_neg (by simp), if_neg (by simp), if_pos ⟨rfl, r⟩]; rfl⟩
      · have r : ¬ M.das.length > 0 := by omega
        simp [r]
    · subst q8
      simp
    · simp [q, q1, q2, q3, q4, q5, q6, q7, q8]

theorem tof_does (M : Mo) (hM : M.fit) {i : Nat} {x : Fu} (hx : M.fns[i]? = some x) :
    (∀ y : Ty, 0 ≤ x.ty → M.tys[x.ty.toNat]? = some y → Does Tryd.prog env 9 [.agg (M.pvs.map .p), sI .u32 (M.ims.length + i : Nat)] [] (.tup [.agg [sI .i64 y.p, sI .i64 y.r], sB true]) []) ∧
    ((x.ty < 0 ∨ (M.tys.length : Int) ≤ x.ty) → Does Tryd.prog env 9 [.agg (M.pvs.map .p), sI .u32 (M.ims.length + i : Nat)] [] (.tup [.agg [sI .i64 0, sI .i64 0], sB false]) []) := by
  have hi : i < M.fns.length := (List.getElem?_eq_some_iff.1 hx).1
  have h1 := hM.ims
  have h2 := hM.fns
  have h3 := hM.tys
  have c := flat_at (z := 3) (enc := encFu) (fun _ => rfl) hx
  have c0 : (M.fns.flatMap encFu).getD (i * 3 + 0) .bad = .sc (.int .i64 x.ty) := c 0 (by decide)
  have w0 : IntKind.i64.wrap ((M.ims.length + i : Nat) : Int) = ((M.ims.length + i : Nat) : Int) := i64In (by omega) (by omega)
  have w1 : IntKind.i64.wrap (((M.ims.length + i : Nat) : Int) - M.ims.length) = i := by rw [i64In (by omega) (by omega)]; omega
  have d1 : decide ((i : Int) < 0) = false := decide_eq_false (by omega)
  have d2 : decide ((i : Int) < (M.fns.length : Int)) = true := decide_eq_true (by omega)
  have i1 : inB (i : Int) M.fns.length = true := by simp only [inB, Bool.and_eq_true, decide_eq_true_eq]; omega
  refine ⟨fun y h0 hy => ?_, fun h => ?_⟩
  · have hT : x.ty.toNat < M.tys.length := (List.getElem?_eq_some_iff.1 hy).1
    have e := flat_at (z := 2) (enc := encTy) (fun _ => rfl) hy
    have e0 : (M.tys.flatMap encTy).getD (x.ty.toNat * 2) .bad = .sc (.int .i64 y.p) := e 0 (by decide)
    have e1 : (M.tys.flatMap encTy).getD (x.ty.toNat * 2 + 1) .bad = .sc (.int .i64 y.r) := e 1 (by decide)
    have d3 : decide (x.ty < 0) = false := decide_eq_false (by omega)
    have d4 : decide (x.ty ≥ (M.tys.length : Int)) = false := decide_eq_false (by omega)
    have i2 : inB x.ty M.tys.length = true := by simp only [inB, Bool.and_eq_true, decide_eq_true_eq]; omega
    refine does_of_tree names (tof_tree M (M.ims.length + i) x.ty y.p y.r) ?_
    simp only [tofTree, Tree.ok, w0, w1, d1, d2, d3, d4, i1, i2, c0, e0, e1, isInt, pvInt, Int.toNat_natCast, Bool.and_true, Bool.false_eq_true, Bool.true_eq_false, false_implies, true_implies, true_and, and_true]
    first | trivial | rfl | exact ⟨rfl, rfl⟩ | exact ⟨rfl, rfl, rfl⟩
  · refine does_of_tree names (tof_tree M (M.ims.length + i) x.ty 0 0) ?_
    rcases h with h | h
    · have d3 : decide (x.ty < 0) = true := decide_eq_true h
      simp only [tofTree, Tree.ok, w0, w1, d1, d2, d3, i1, c0, isInt, pvInt, Int.toNat_natCast, Bool.and_true, Bool.false_eq_true, Bool.true_eq_false, false_implies, true_implies, true_and, and_true]
      first | trivial | rfl | exact ⟨rfl, rfl⟩ | exact ⟨rfl, rfl, rfl⟩
    · by_cases hn : x.ty < 0
      · have d3 : decide (x.ty < 0) = true := decide_eq_true hn
        simp only [tofTree, Tree.ok, w0, w1, d1, d2, d3, i1, c0, isInt, pvInt, Int.toNat_natCast, Bool.and_true, Bool.false_eq_true, Bool.true_eq_false, false_implies, true_implies, true_and, and_true]
        first | trivial | rfl | exact ⟨rfl, rfl⟩ | exact ⟨rfl, rfl, rfl⟩
      · have d3 : decide (x.ty < 0) = false := decide_eq_false hn
        have d4 : decide (x.ty ≥ (M.tys.length : Int)) = true := decide_eq_true h
        simp only [tofTree, Tree.ok, w0, w1, d1, d2, d3, d4, i1, c0, isInt, pvInt, Int.toNat_natCast, Bool.and_true, Bool.false_eq_true, Bool.true_eq_false, false_implies, true_implies, true_and, and_true]
        first | trivial | rfl | exact ⟨rfl, rfl⟩ | exact ⟨rfl, rfl, rfl⟩

theorem _root_.Go.Am.CRel.env {P : Program} {E E' : Env} (he : E.glob = E'.glob) {g : Gh} {c : Cfg} {fr : Frame} {w : World} : CRel P E g c fr w → CRel P E' g c fr w := by
  have key : ∀ {st : St} {a : Act}, SRel E g st a w → SRel E' g st a w := fun h => ⟨h.tm, h.nt, h.rel, h.fix, fun i cs hi => h.glob i cs (by rw [he]; exact hi)⟩
  unfold CRel
  split
  · exact id
  · exact id
  · rintro ⟨b, a, t, cv, h1, h2, h3, h4, h5, h6⟩
    exact ⟨b, a, t, cv, h1, h2, h3, h4, key h5, h6⟩
  · rintro ⟨b, a, t, h1, h2, h3, h4, h5, h6, h7⟩
    exact ⟨b, a, t, h1, h2, h3, h4, h5, h6, key h7⟩
  · rintro ⟨b, a, h1, h2, h3, h4, h5, h6⟩
    exact ⟨b, a, h1, h2, h3, h4, key h5, h6⟩

theorem _root_.Go.Am.Good.env {P : Program} {E E' : Env} (he : E.glob = E'.glob) {c : Cfg} {o : Out} (h : Am.Good P E c o) : Am.Good P E' c o :=
  fun g fr w cs hr => h g fr w cs (CRel.env he.symm hr)

theorem lv_cfg (M : Mo) (i : Nat) (T P Q : Int) (vs : List AV) (m : Mem) : bodyCfg Tryd.prog (lvE M i T P Q) 3 2 vs m 0 72 = bodyCfg Tryd.prog envL 3 2 vs m 0 72 := by kernel_rfl

theorem lv_up {M : Mo} {i : Nat} {T P Q : Int} {c : Cfg} {o : Out} (h : Am.Good Tryd.prog envL c o) : Am.Good Tryd.prog (lvE M i T P Q) c o := Go.Am.Good.env (E := envL) (E' := lvE M i T P Q) rfl h
theorem lv_down {M : Mo} {i : Nat} {T P Q : Int} {c : Cfg} {o : Out} (h : Am.Good Tryd.prog (lvE M i T P Q) c o) : Am.Good Tryd.prog envL c o := Go.Am.Good.env (E := lvE M i T P Q) (E' := envL) rfl h

theorem Does.toV {M : Mo} {i : Nat} {T P Q : Int} {f : FuncId} {args : List AV} {m m' : Mem} {v : AV} (h : Does Tryd.prog env f args m v m') : Does Tryd.prog (lvE M i T P Q) f args m v m' := h.env fun _ _ q => q
theorem Does.toL {f : FuncId} {args : List AV} {m m' : Mem} {v : AV} (h : Does Tryd.prog env f args m v m') : Does Tryd.prog envL f args m v m' := h.env fun _ _ q => q

noncomputable def lvCfg (M : Mo) (i : Nat) : Cfg := bodyCfg Tryd.prog envL 3 2 [.mp 0 0, sB true, sI .i64 i] [.pc M.pvs] 0 72

theorem lv_all (M : Mo) (hM : M.fit) (hT : ∀ x ∈ M.fns, 0 ≤ x.ty) : ∀ (r i : Nat), i + r = M.fns.length → Am.Good Tryd.prog envL (lvCfg M i) (.ret (sB true) []) := by
  intro r
  induction r with
  | zero =>
    intro i hi
    obtain rfl : i = M.fns.length := by omega
    have hd : decide ((M.fns.length : Int) < (M.fns.length : Int)) = false := decide_eq_false (by omega)
    have q : Am.Good Tryd.prog (lvE M M.fns.length 0 0 0) (bodyCfg Tryd.prog (lvE M M.fns.length 0 0 0) 3 2 [.mp 0 0, sB true, sI .i64 M.fns.length] [.pc M.pvs] 0 72) (.ret (sB true) []) := by
      refine good_of_tree names (lvf_tree M M.fns.length 0 0 0) ?_
      simp only [lvfTree, Tree.ok, hd]
      exact ⟨fun q => (by cases q), fun _ => trivial⟩
    rw [lv_cfg] at q
    exact lv_down q
  | succ r ih =>
    intro i hi
    have h1 := hM.ims
    have h2 := hM.fns
    have h3 := hM.tys
    have hil : i < M.fns.length := by omega
    have hx := List.getElem?_eq_getElem hil
    have hTx := hT _ (List.getElem_mem hil)
    generalize M.fns[i] = x at hx hTx
    have c := flat_at (z := 3) (enc := encFu) (fun _ => rfl) hx
    have c0 : (M.fns.flatMap encFu).getD (i * 3 + 0) .bad = .sc (.int .i64 x.ty) := c 0 (by decide)
    have w : IntKind.i64.wrap ((i : Int) + 1) = ((i + 1 : Nat) : Int) := by rw [i64In (by omega) (by omega)]; rfl
    have wa : IntKind.u32.wrap (IntKind.i64.wrap ((M.ims.length : Int) + (i : Int))) = ((M.ims.length + i : Nat) : Int) := by
      rw [i64In (by omega) (by omega), u32In (by omega) (by omega)]; omega
    have hd : decide ((i : Int) < (M.fns.length : Int)) = true := decide_eq_true (by omega)
    have i1 : inB (i : Int) M.fns.length = true := by simp only [inB, Bool.and_eq_true, decide_eq_true_eq]; omega
    obtain ⟨t1, t2⟩ := tof_does M hM hx
    have next := ih (i + 1) (by omega)
    have eI : ∀ a : Int, eqAV (sI .i64 a) (sI .i64 a) = true := fun a => by
      simp only [eqAV, eqPV, eqV, decide_true, Bool.and_true]
      rfl
    have eB : eqAV (sB false) (sB false) = true := rfl
    by_cases hr : (M.tys.length : Int) ≤ x.ty
    · have hc := t2 (.inr hr)
      have dl : decide (x.ty < (M.tys.length : Int)) = false := decide_eq_false (by omega)
      have q : Am.Good Tryd.prog (lvE M i x.ty 0 0) (bodyCfg Tryd.prog (lvE M i x.ty 0 0) 3 2 [.mp 0 0, sB true, sI .i64 i] [.pc M.pvs] 0 72) (.ret (sB true) []) := by
        refine good_of_tree names (lvf_tree M i x.ty 0 0) ?_
        simp only [lvfTree, Tree.ok, hd, w, wa, i1, c0, dl, isInt, pvInt, Int.toNat_natCast, eI, Bool.and_true, Bool.true_and]
        refine ⟨fun _ => ⟨Does.toV hc, rfl, ?_⟩, fun q => (by cases q)⟩
        rw [lv_cfg]
        exact lv_up next
      rw [lv_cfg] at q
      exact lv_down q
    · have hlt : x.ty.toNat < M.tys.length := by omega
      have hy := List.getElem?_eq_getElem hlt
      generalize M.tys[x.ty.toNat] = y at hy
      have hc := t1 y hTx hy
      have e := flat_at (z := 2) (enc := encTy) (fun _ => rfl) hy
      have e0 : (M.tys.flatMap encTy).getD (x.ty.toNat * 2) .bad = .sc (.int .i64 y.p) := e 0 (by decide)
      have e1 : (M.tys.flatMap encTy).getD (x.ty.toNat * 2 + 1) .bad = .sc (.int .i64 y.r) := e 1 (by decide)
      have dl : decide (x.ty < (M.tys.length : Int)) = true := decide_eq_true (by omega)
      have i2 : inB x.ty M.tys.length = true := by simp only [inB, Bool.and_eq_true, decide_eq_true_eq]; omega
      have q : Am.Good Tryd.prog (lvE M i x.ty y.p y.r) (bodyCfg Tryd.prog (lvE M i x.ty y.p y.r) 3 2 [.mp 0 0, sB true, sI .i64 i] [.pc M.pvs] 0 72) (.ret (sB true) []) := by
        refine good_of_tree names (lvt_tree M i x.ty y.p y.r) ?_
        simp only [lvtTree, Tree.ok, hd, w, wa, i1, i2, c0, e0, e1, dl, isInt, pvInt, Int.toNat_natCast, eI, Bool.and_true, Bool.true_and, beq_self_eq_true, Bool.not_true]
        refine ⟨fun _ => ⟨Does.toV hc, ?_, ?_⟩, fun q => (by cases q)⟩
        · first | rfl | trivial
        · rw [lv_cfg]
          exact lv_up next
      rw [lv_cfg] at q
      exact lv_down q

theorem lw_does (M : Mo) (hw : M.wf) (hs : M.short) (w : Int) : Does Tryd.prog envL 3 [.agg (M.pvs.map .p), sI .i64 w] [] (sB true) [] := by
  have haw : Does Tryd.prog envL 4 [] [] (sB true) [] := Go.Am.Does.env Awdoes fun _ _ q => q
  obtain ⟨k, hk⟩ := pick_does w
  have hlg := Does.toL (large_does M hw hs)
  refine does_of_tree names (lwl_tree M (lessF M k) w (largeF M) (mchkF M) (mchkF (lessF M k)) k) ?_
  simp only [lwlTree, Tree.ok]
  refine ⟨haw, hlg, fun _ => trivial, fun q => ?_⟩
  obtain ⟨hf, hsl, _⟩ := large_inv q
  have hle := less_le M k
  refine ⟨Does.toL (mcheck_does M hf hw hsl), fun _ => trivial, fun q2 => ?_⟩
  have hm : mchkF M = 0 := by simpa using q2
  have hmay := (may_iff M).1 hm
  have hm2 : mchkF (lessF M k) = 0 := (may_iff _).2 (may_less hle hmay)
  refine ⟨Does.toL hk, Does.toL (less_does M hf k), Does.toL (mcheck_does _ (fit_le hle hf) (wf_le hle hw) (slim_le hle hsl)), fun q3 => ?_, fun _ => ?_⟩
  · rw [hm2] at q3; cases q3
  · refine lv_all M hf (fun x hx => ?_) M.fns.length 0 (by omega)
    have r := hmay.rest
    simp only [restB, Bool.or_eq_false_iff] at r
    have b := (List.any_eq_false.1 r.1.1.1.1.1.2) x hx
    simp only [badU, Bool.not_eq_true, Bool.or_eq_false_iff, Bool.not_eq_false', Bool.and_eq_true, decide_eq_true_eq] at b
    exact b.1.1.1

end Go.Proofs.YtdmmllcjgjmbbaaDoor.N
end

section
set_option linter.unusedVariables false
namespace Go.Am
open Go.RowKit Go.Lib

section
variable {H : Type} {enc : TypeId × Value → H} {P : Program} {w : World} {base : Nat} {spare : Nat → Bool} {held : Bool}

theorem len_of_weights {lt te : TypeId} (ht : P.underlying lt = some (.slice te)) (hb : 1 ≤ P.bytesOf te) {fuel : Nat} {v : Value} {x : DataW H × List MemPlace} (h : DataW.trod enc P w base spare held fuel lt [v] = some x)
    (hw : ∀ n ∈ x.1.weights P lt, n ≤ reachBytes) {g : Gh} {len sz : Nat} {cells : List PV} (hv : VP g w (.ps len sz cells) v) : len ≤ reachBytes := by
  rcases DataW.trod_slice ht h with ⟨e, _⟩ | ⟨a, len', cap, elems, rest, n, rfl, e, rfl, _, _, _, hel, _, _, _⟩
  · obtain rfl : v = .slice none 0 0 := (List.cons.inj e).1
    cases hv with
    | psE => exact Nat.zero_le _
  · obtain rfl : v = .slice (some a) len' cap := (List.cons.inj e).1
    have hm : (elems.length + rest.length) * P.bytesOf te ∈ DataW.weights P lt (.slice (elems.map (·.1)) (rest.map (·.1))) := by
      rw [DataW.weights, ht]
      simp
    have q := hw _ hm
    have r : elems.length ≤ (elems.length + rest.length) * P.bytesOf te := Nat.le_trans (Nat.le_add_right _ _) (Nat.le_mul_of_pos_right _ hb)
    have hlen : len = len' := by cases hv <;> rfl
    omega

theorem weights_mem : ∀ {ts : List TypeId} {ds : List (DataW H)} {i : Nat} {t : TypeId} {d : DataW H}, ts[i]? = some t → ds[i]? = some d → ∀ n ∈ d.weights P t, n ∈ DataW.weightsEach P ts ds
  | t' :: ts, d' :: ds, 0, t, d, h1, h2, n, hn => by
    simp only [List.getElem?_cons_zero, Option.some.injEq] at h1 h2
    subst h1; subst h2
    rw [DataW.weightsEach]
    exact List.mem_append_left _ hn
  | t' :: ts, d' :: ds, i + 1, t, d, h1, h2, n, hn => by
    simp only [List.getElem?_cons_succ] at h1 h2
    rw [DataW.weightsEach]
    exact List.mem_append_right _ (weights_mem h1 h2 n hn)

variable {tM lTy lIm lFu lLi lGl lEx lEl lDa tTy tIm tFu tCo tLi tGl tEx tEl tDa tL tI ti tu tn tt ts tb t8 tk : TypeId}

theorem mo_short (T : MoT P tM lTy lIm lFu lLi lGl lEx lEl lDa tTy tIm tFu tCo tLi tGl tEx tEl tDa tL tI ti tu tn tt ts tb t8 tk) (hb : ∀ t ∈ [tTy, tIm, tFu, tLi, tGl, tEx, tEl, tDa], 1 ≤ P.bytesOf t)
    {fuel : Nat} {cs : List Value} {x : DataW H × List MemPlace} (h : DataW.trod enc P w base spare held fuel tM cs = some x) (hw : ∀ n ∈ x.1.weights P tM, n ≤ reachBytes) {g : Gh} {M : Mo} (hv : VPs g w M.pvs cs) : M.short := by
  obtain ⟨fs, q1, q2, q3⟩ := T.st (tM, [lTy, lIm, lFu, lLi, lLi, lGl, lEx, tb, tu, lEl, lDa]) (by simp)
  obtain ⟨xs, n, rfl, rfl, h3, h4, h5⟩ := DataW.trod_struct q1 h
  have hW : ∀ n ∈ DataW.weightsEach P (fs.toList.map (·.type)) (xs.map (·.1)), n ≤ reachBytes := by
    intro n hn
    refine hw n ?_
    rw [DataW.weights, q1]
    exact hn
  have one : ∀ (i : Nat) (lt te : TypeId) (len sz : Nat) (cells : List PV) (v : Value), [lTy, lIm, lFu, lLi, lLi, lGl, lEx, tb, tu, lEl, lDa][i]? = some lt → (lt, te) ∈ [(lTy, tTy), (lIm, tIm), (lFu, tFu), (lLi, tLi), (lGl, tGl), (lEx, tEx), (lEl, tEl), (lDa, tDa)] →
      P.cellsOf lt = 1 → 1 ≤ P.bytesOf te → (cs.drop i).take 1 = [v] → VP g w (.ps len sz cells) v → len ≤ 1000000000000000 := by
    intro i lt te len sz cells v hi hm hc1 hb1 hcs hvp
    obtain ⟨f, f1, f2, f3⟩ := fld (fs := fs) (i := i) (o := i) (t := lt) (by rw [q3, List.getElem?_map, List.getElem?_zipIdx, hi]; simp)
    have e := h5 i f f1
    rw [f2, f3, hc1, hcs] at e
    have hil : i < xs.length := by
      rw [h4]
      rcases Nat.lt_or_ge i fs.size with q | q
      · exact q
      · rw [Array.getElem?_eq_none q] at f1; cases f1
    rw [List.getElem?_eq_getElem hil] at e
    have r := len_of_weights (T.sl (lt, te) hm) hb1 e (fun n hn => hW n (weights_mem (i := i) (t := lt) (d := xs[i].1) (by rw [List.getElem?_map, Array.getElem?_toList, f1]; simp [f3]) (by rw [List.getElem?_map, List.getElem?_eq_getElem hil]; rfl) n hn)) hvp
    have : reachBytes ≤ 1000000000000000 := by decide
    omega
  match cs, hv with
  | [u0, u1, u2, u3, u4, u5, u6, u7, u8, u9, u10], hv =>
    obtain ⟨v0, v1, v2, v3, v4, v5, v6, v7, v8, v9, v10, _⟩ := hv
    exact ⟨one 0 lTy tTy _ _ _ u0 rfl (by simp) (T.c1 (by simp)) (hb _ (by simp)) rfl v0, one 1 lIm tIm _ _ _ u1 rfl (by simp) (T.c1 (by simp)) (hb _ (by simp)) rfl v1, one 2 lFu tFu _ _ _ u2 rfl (by simp) (T.c1 (by simp)) (hb _ (by simp)) rfl v2,
      one 3 lLi tLi _ _ _ u3 rfl (by simp) (T.c1 (by simp)) (hb _ (by simp)) rfl v3, one 4 lLi tLi _ _ _ u4 rfl (by simp) (T.c1 (by simp)) (hb _ (by simp)) rfl v4, one 5 lGl tGl _ _ _ u5 rfl (by simp) (T.c1 (by simp)) (hb _ (by simp)) rfl v5,
      one 6 lEx tEx _ _ _ u6 rfl (by simp) (T.c1 (by simp)) (hb _ (by simp)) rfl v6, one 9 lEl tEl _ _ _ u9 rfl (by simp) (T.c1 (by simp)) (hb _ (by simp)) rfl v9, one 10 lDa tDa _ _ _ u10 rfl (by simp) (T.c1 (by simp)) (hb _ (by simp)) rfl v10⟩

end

theorem pairs_hold {P : Program} {W : World} {name : String} {d : DataW Unit} {k : IntKind} {zs : List (Int × Int)} {g t e n t1 : Nat} {fs : Array Field} (h : VarReads P W name d) (hd : d = .agg (zs.map fun z => .agg [.lit (.int k z.1), .lit (.int k z.2)])) (hg : P.globalNamed name = some g)
    (ht : (P.globals[g]?).map (·.type) = some t) (hu : P.underlying t = some (.array n e)) (he : P.underlying e = some (.struct fs)) (hf : (fs.toList.map fun f => (f.offset, f.type)) = [(0, t1), (1, t1)]) (hk : P.underlying t1 = some (.int k)) (hc : P.cellsOf e = 2) (hc1 : P.cellsOf t1 = 1) (hn : zs.length ≤ n) :
    ∀ (i : Nat) (v : Value), ((zs.flatMap fun z => [z.1, z.2]).map (Value.int k))[i]? = some v → W.cell? ⟨g, i, none⟩ = some v ∧ v.oneCell' = true := by
  subst hd
  obtain ⟨g', t', cs, fuel, p, h1, h2, h3, h4⟩ := h
  rw [hg] at h1; cases h1
  rw [ht] at h2; cases h2
  have two : ∀ (i : Nat) (z : Int × Int), zs[i]? = some z → W.cell? ⟨g, i * 2, none⟩ = some (.int k z.1) ∧ W.cell? ⟨g, i * 2 + 1, none⟩ = some (.int k z.2) := by
    intro i z hz
    have hi : i < zs.length := (List.getElem?_eq_some_iff.1 hz).1
    obtain ⟨fuel', d, q, hd, htr⟩ := array_elem hu h4 i (by omega)
    rw [List.getElem?_map, hz] at hd
    simp only [Option.map_some, Option.some.injEq] at hd
    subst hd
    obtain ⟨xs, m, rfl, hx, hl, hxl, hget⟩ := DataW.trod_struct he htr
    obtain ⟨f0, a1, a2, a3⟩ := fld (fs := fs) (i := 0) (o := 0) (t := t1) (by rw [hf]; rfl)
    obtain ⟨f1, b1, b2, b3⟩ := fld (fs := fs) (i := 1) (o := 1) (t := t1) (by rw [hf]; rfl)
    have e0 := hget 0 f0 a1
    have e1 := hget 1 f1 b1
    rw [a2, a3, hc1] at e0
    rw [b2, b3, hc1] at e1
    have hxs := congrArg Prod.fst hx
    simp only [DataW.agg.injEq] at hxs
    have hs : fs.size = 2 := by
      have := congrArg List.length hf
      simpa using this
    rw [hs] at hxl
    match xs, hxl with
    | [x0, x1], _ =>
      simp only [List.map_cons, List.map_nil, List.cons.injEq, and_true] at hxs
      simp only [List.getElem?_cons_zero, List.getElem?_cons_succ] at e0 e1
      obtain ⟨z0, g0, k0, _⟩ := DataW.trod_int hk e0
      obtain ⟨z1, g1, k1, _⟩ := DataW.trod_int hk e1
      obtain ⟨y0, y1⟩ := hxs
      rw [k0] at y0
      rw [k1] at y1
      simp only [DataW.lit.injEq, Lit.int.injEq, true_and] at y0 y1
      subst y0; subst y1
      refine ⟨?_, ?_⟩
      · rw [World.var?_cell hg h3 (i * 2), ← Array.getElem?_toList]
        have := congrArg (·[0]?) g0
        simpa [List.getElem?_take, List.getElem?_drop, hc] using this
      · rw [World.var?_cell hg h3 (i * 2 + 1), ← Array.getElem?_toList]
        have := congrArg (·[0]?) g1
        simpa [List.getElem?_take, List.getElem?_drop, hc] using this
  have at2 : ∀ (l : List (Int × Int)) (i : Nat) (v : Int), (l.flatMap fun z => [z.1, z.2])[i]? = some v → ∃ z, l[i / 2]? = some z ∧ ((i % 2 = 0 ∧ v = z.1) ∨ (i % 2 = 1 ∧ v = z.2)) := by
    intro l
    induction l with
    | nil => intro i v h; cases h
    | cons z r ih =>
      intro i v h
      match i, h with
      | 0, h => exact ⟨z, rfl, .inl ⟨rfl, by simpa using h.symm⟩⟩
      | 1, h => exact ⟨z, rfl, .inr ⟨rfl, by simpa using h.symm⟩⟩
      | i + 2, h =>
        obtain ⟨y, h1, h2⟩ := ih i v (by simpa using h)
        refine ⟨y, ?_, ?_⟩
        · rw [show (i + 2) / 2 = i / 2 + 1 by omega]; exact h1
        · rcases h2 with ⟨a, b⟩ | ⟨a, b⟩
          · exact .inl ⟨by omega, b⟩
          · exact .inr ⟨by omega, b⟩
  intro i v hv
  rw [List.getElem?_map, Option.map_eq_some_iff] at hv
  obtain ⟨z, hz, rfl⟩ := hv
  obtain ⟨y, h1, h2⟩ := at2 zs i z hz
  obtain ⟨c1, c2⟩ := two (i / 2) y h1
  refine ⟨?_, rfl⟩
  rcases h2 with ⟨a, rfl⟩ | ⟨a, rfl⟩
  · rw [show i / 2 * 2 = i by omega] at c1; exact c1
  · rw [show i / 2 * 2 + 1 = i by omega] at c2; exact c2

end Go.Am
end

section
namespace Go.Proofs.YtdmmllcjgjmbbaaDoor.N
open Go Go.Am

def laidTab : List (String × DataW Unit) := Rows.moduleLessRow.laid

def accP : List (Int × Int) := [(128, 191), (160, 191), (128, 159), (144, 191), (128, 143)] ++ List.replicate 11 (0, 0)
theorem accE : accZ = accP.flatMap fun z => [z.1, z.2] := by decide

noncomputable def fieldsOf (t : TypeId) : Array Field := match Tryd.prog.underlying t with
  | some (.struct fs) => fs
  | _ => #[]

theorem tabs_hold {W : World} (h : laidMetH Tryd.prog laidTab W) : TabsHold tabs W := by
  rw [MakeChecks.laidMetH_plain _ _ _ (by kernel_rfl)] at h
  refine tabsHold_cons (table_holds (n := 256) (t := 118) (e := 5) (k := .u8) (zs := spaceZ) (Lib.laidMet.reads h (n := "strings.asciiSpace") (d := Rows.laid_strings_asciiSpace) (.tail _ (.tail _ (.head _)))) (by kernel_rfl) (by kernel_rfl) (by kernel_rfl) (by kernel_rfl) (by kernel_rfl) (by kernel_rfl) (Nat.le_of_ble_eq_true (by kernel_rfl)))
    (tabsHold_cons (table_holds (n := 256) (t := 118) (e := 5) (k := .u8) (zs := firstZ) (Lib.laidMet.reads h (n := "unicode/utf8.first") (d := Rows.laid_unicode_utf8_first) (.tail _ (.tail _ (.tail _ (.head _))))) (by kernel_rfl) (by kernel_rfl) (by kernel_rfl) (by kernel_rfl) (by kernel_rfl) (by kernel_rfl) (Nat.le_of_ble_eq_true (by kernel_rfl)))
    (tabsHold_cons ?_ tabsHold_nil))
  rw [accE]
  exact pairs_hold (n := 16) (t := 122) (e := 121) (t1 := 5) (k := .u8) (zs := accP) (fs := fieldsOf 121) (Lib.laidMet.reads h (n := "unicode/utf8.acceptRanges") (d := Rows.laid_unicode_utf8_acceptRanges) (.head _)) (by kernel_rfl) (by kernel_rfl) (by kernel_rfl) (by kernel_rfl) (by kernel_rfl) (by kernel_rfl) (by kernel_rfl) (by kernel_rfl) (by kernel_rfl) (Nat.le_of_ble_eq_true (by kernel_rfl))

theorem insT : InsT Tryd.prog 43 67 3 28 21 55 (fieldsOf 67) where
  hL := by kernel_rfl
  hI := by kernel_rfl
  hz := by kernel_rfl
  hf := by kernel_rfl
  h1 := ⟨by kernel_rfl, by kernel_rfl, by kernel_rfl, by kernel_rfl, by kernel_rfl⟩
  ki := by kernel_rfl
  ku := by kernel_rfl
  kn := by kernel_rfl
  kt := by kernel_rfl

theorem moT : MoT Tryd.prog 32 22 23 24 25 26 27 29 30 40 62 47 45 93 54 64 57 60 43 67 3 28 21 55 9 4 58 5 where
  ins := ⟨_, insT⟩
  us := by kernel_rfl
  ub := by kernel_rfl
  u8 := by kernel_rfl
  uk := by kernel_rfl
  one := by kernel_rfl
  sl q hq := by
    simp only [List.mem_cons, List.not_mem_nil, or_false] at hq
    rcases hq with rfl | rfl | rfl | rfl | rfl | rfl | rfl | rfl
    · kernel_rfl
    · kernel_rfl
    · kernel_rfl
    · kernel_rfl
    · kernel_rfl
    · kernel_rfl
    · kernel_rfl
    · kernel_rfl
  st q hq := by
    simp only [List.mem_cons, List.not_mem_nil, or_false] at hq
    rcases hq with rfl | rfl | rfl | rfl | rfl | rfl | rfl | rfl | rfl
    · exact ⟨fieldsOf 32, by kernel_rfl, by kernel_rfl, by kernel_rfl⟩
    · exact ⟨fieldsOf 40, by kernel_rfl, by kernel_rfl, by kernel_rfl⟩
    · exact ⟨fieldsOf 62, by kernel_rfl, by kernel_rfl, by kernel_rfl⟩
    · exact ⟨fieldsOf 45, by kernel_rfl, by kernel_rfl, by kernel_rfl⟩
    · exact ⟨fieldsOf 93, by kernel_rfl, by kernel_rfl, by kernel_rfl⟩
    · exact ⟨fieldsOf 54, by kernel_rfl, by kernel_rfl, by kernel_rfl⟩
    · exact ⟨fieldsOf 64, by kernel_rfl, by kernel_rfl, by kernel_rfl⟩
    · exact ⟨fieldsOf 57, by kernel_rfl, by kernel_rfl, by kernel_rfl⟩
    · exact ⟨fieldsOf 60, by kernel_rfl, by kernel_rfl, by kernel_rfl⟩
  fu := ⟨fieldsOf 47, by kernel_rfl, by kernel_rfl, by kernel_rfl⟩

theorem moB : ∀ t ∈ [40, 62, 47, 93, 54, 64, 57, 60], 1 ≤ Tryd.prog.bytesOf t := by
  have h : ([40, 62, 47, 93, 54, 64, 57, 60].all fun t => Nat.ble 1 (Tryd.prog.bytesOf t)) = true := by kernel_rfl
  intro t ht
  exact Nat.le_of_ble_eq_true (List.all_eq_true.1 h t ht)

end Go.Proofs.YtdmmllcjgjmbbaaDoor.N
end
