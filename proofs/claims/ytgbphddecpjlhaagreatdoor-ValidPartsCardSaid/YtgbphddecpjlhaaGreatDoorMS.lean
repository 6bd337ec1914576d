/-
  VaAw: its call, run, in pieces.
-/
import Derived.Test.YtgbphddecpjlhaaGreatDoorMH
import Derived.Test.YtgbphddecpjlhaaGreatDoorMF

section
namespace Go.Proofs.YtgbphddecpjlhaaGreatDoor.N
open Go Go.Am

/-- The same, where nothing is forgotten. -/
def envC : Env where
  glob := tabAt tabs
  wr := wrs
  keep _ _ := none

def Awc0 : Call' := ⟨169, [.p (.sc (.string ⟨#[101, 113, 122, 32, 101, 113, 32, 110, 101, 32, 108, 116, 95, 115, 32, 108, 116, 95, 117, 32, 103, 116, 95, 115, 32, 103, 116, 95, 117, 32, 108, 101, 95, 115, 32, 108, 101, 95, 117, 32, 103, 101, 95, 115, 32, 103, 101, 95, 117]⟩))], [], .p (.ps 11 1 [.sc (.string ⟨#[101, 113, 122]⟩), .sc (.string ⟨#[101, 113]⟩), .sc (.string ⟨#[110, 101]⟩), .sc (.string ⟨#[108, 116, 95, 115]⟩), .sc (.string ⟨#[108, 116, 95, 117]⟩), .sc (.string ⟨#[103, 116, 95, 115]⟩), .sc (.string ⟨#[103, 116, 95, 117]⟩), .sc (.string ⟨#[108, 101, 95, 115]⟩), .sc (.string ⟨#[108, 101, 95, 117]⟩), .sc (.string ⟨#[103, 101, 95, 115]⟩), .sc (.string ⟨#[103, 101, 95, 117]⟩)]), []⟩
theorem Awd0 : Does Tryz.prog envC Awc0.g Awc0.args Awc0.m Awc0.v Awc0.m' := does_fast names (K := []) calls_nil (n := 10000000) (by kernel_rfl)
def AwK1 : List Call' := Awc0 :: []
theorem AwK1ok : Calls' Tryz.prog envC AwK1 := calls_cons Awd0 calls_nil

def Awc1 : Call' := ⟨169, [.p (.sc (.string ⟨#[99, 108, 122, 32, 99, 116, 122, 32, 112, 111, 112, 99, 110, 116, 32, 97, 100, 100, 32, 115, 117, 98, 32, 109, 117, 108, 32, 100, 105, 118, 95, 115, 32, 100, 105, 118, 95, 117, 32, 114, 101, 109, 95, 115, 32, 114, 101, 109, 95, 117, 32, 97, 110, 100, 32, 111, 114, 32, 120, 111, 114, 32, 115, 104, 108, 32, 115, 104, 114, 95, 115, 32, 115, 104, 114, 95, 117, 32, 114, 111, 116, 108, 32, 114, 111, 116, 114]⟩))], [], .p (.ps 18 1 [.sc (.string ⟨#[99, 108, 122]⟩), .sc (.string ⟨#[99, 116, 122]⟩), .sc (.string ⟨#[112, 111, 112, 99, 110, 116]⟩), .sc (.string ⟨#[97, 100, 100]⟩), .sc (.string ⟨#[115, 117, 98]⟩), .sc (.string ⟨#[109, 117, 108]⟩), .sc (.string ⟨#[100, 105, 118, 95, 115]⟩), .sc (.string ⟨#[100, 105, 118, 95, 117]⟩), .sc (.string ⟨#[114, 101, 109, 95, 115]⟩), .sc (.string ⟨#[114, 101, 109, 95, 117]⟩), .sc (.string ⟨#[97, 110, 100]⟩), .sc (.string ⟨#[111, 114]⟩), .sc (.string ⟨#[120, 111, 114]⟩), .sc (.string ⟨#[115, 104, 108]⟩), .sc (.string ⟨#[115, 104, 114, 95, 115]⟩), .sc (.string ⟨#[115, 104, 114, 95, 117]⟩), .sc (.string ⟨#[114, 111, 116, 108]⟩), .sc (.string ⟨#[114, 111, 116, 114]⟩)]), []⟩
theorem Awd1 : Does Tryz.prog envC Awc1.g Awc1.args Awc1.m Awc1.v Awc1.m' := does_fast names (K := AwK1) AwK1ok (n := 10000000) (by kernel_rfl)
def AwK2 : List Call' := Awc1 :: AwK1
theorem AwK2ok : Calls' Tryz.prog envC AwK2 := calls_cons Awd1 AwK1ok

def Awc2 : Call' := ⟨95, [.p (.ps 1 8 [.sc (.int .i64 32), .sc (.int .i64 0), .sc (.int .u32 0), .sc (.int .u32 0), .sc (.int .i32 0), .ps 0 0 [], .ps 0 0 [], .ps 0 0 []])], [], .p (.sc (.int .i64 0)), []⟩
theorem Awd2 : Does Tryz.prog envC Awc2.g Awc2.args Awc2.m Awc2.v Awc2.m' := does_fast names (K := AwK2) AwK2ok (n := 10000000) (by kernel_rfl)
def AwK3 : List Call' := Awc2 :: AwK2
theorem AwK3ok : Calls' Tryz.prog envC AwK3 := calls_cons Awd2 AwK2ok

def Awc3 : Call' := ⟨15, [.agg [.os none 1 2 [.sc (.int .i64 1), .sc (.int .i64 1)], .os none 0 0 [], .os none 1 3 [.sc (.int .i64 0), .sc (.int .i64 0), .ps 1 8 [.sc (.int .i64 32), .sc (.int .i64 0), .sc (.int .u32 0), .sc (.int .u32 0), .sc (.int .i32 0), .ps 0 0 [], .ps 0 0 [], .ps 0 0 []]], .os none 0 0 [], .os none 0 0 [], .os none 0 0 [], .os none 0 0 [], .p (.sc (.bool false)), .p (.sc (.int .u32 0)), .os none 0 0 [], .os none 0 0 []]], [], .p (.sc (.int .i64 0)), []⟩
theorem Awd3 : Does Tryz.prog envC Awc3.g Awc3.args Awc3.m Awc3.v Awc3.m' := does_fast names (K := AwK3) AwK3ok (n := 10000000) (by kernel_rfl)
def AwK4 : List Call' := Awc3 :: AwK3
theorem AwK4ok : Calls' Tryz.prog envC AwK4 := calls_cons Awd3 AwK3ok

def Awc4 : Call' := ⟨16, [.agg [.os none 1 2 [.sc (.int .i64 1), .sc (.int .i64 1)], .os none 0 0 [], .os none 1 3 [.sc (.int .i64 0), .sc (.int .i64 0), .ps 1 8 [.sc (.int .i64 32), .sc (.int .i64 0), .sc (.int .u32 0), .sc (.int .u32 0), .sc (.int .i32 0), .ps 0 0 [], .ps 0 0 [], .ps 0 0 []]], .os none 0 0 [], .os none 0 0 [], .os none 0 0 [], .os none 0 0 [], .p (.sc (.bool false)), .p (.sc (.int .u32 0)), .os none 0 0 [], .os none 0 0 []], .p (.sc (.int .i64 0))], [], .tup [.p (.sc (.int .i64 0)), .p (.sc (.int .i64 0))], []⟩
theorem Awd4 : Does Tryz.prog envC Awc4.g Awc4.args Awc4.m Awc4.v Awc4.m' := does_fast names (K := AwK4) AwK4ok (n := 10000000) (by kernel_rfl)
def AwK5 : List Call' := Awc4 :: AwK4
theorem AwK5ok : Calls' Tryz.prog envC AwK5 := calls_cons Awd4 AwK4ok

def Awc5 : Call' := ⟨95, [.p (.ps 1 8 [.sc (.int .i64 32), .sc (.int .i64 0), .sc (.int .u32 1), .sc (.int .u32 0), .sc (.int .i32 0), .ps 0 0 [], .ps 0 0 [], .ps 0 0 []])], [], .p (.sc (.int .i64 0)), []⟩
theorem Awd5 : Does Tryz.prog envC Awc5.g Awc5.args Awc5.m Awc5.v Awc5.m' := does_fast names (K := AwK5) AwK5ok (n := 10000000) (by kernel_rfl)
def AwK6 : List Call' := Awc5 :: AwK5
theorem AwK6ok : Calls' Tryz.prog envC AwK6 := calls_cons Awd5 AwK5ok

def Awc6 : Call' := ⟨15, [.agg [.os none 1 2 [.sc (.int .i64 1), .sc (.int .i64 1)], .os none 0 0 [], .os none 1 3 [.sc (.int .i64 0), .sc (.int .i64 0), .ps 1 8 [.sc (.int .i64 32), .sc (.int .i64 0), .sc (.int .u32 1), .sc (.int .u32 0), .sc (.int .i32 0), .ps 0 0 [], .ps 0 0 [], .ps 0 0 []]], .os none 0 0 [], .os none 0 0 [], .os none 0 0 [], .os none 0 0 [], .p (.sc (.bool false)), .p (.sc (.int .u32 0)), .os none 0 0 [], .os none 0 0 []]], [], .p (.sc (.int .i64 0)), []⟩
theorem Awd6 : Does Tryz.prog envC Awc6.g Awc6.args Awc6.m Awc6.v Awc6.m' := does_fast names (K := AwK6) AwK6ok (n := 10000000) (by kernel_rfl)
def AwK7 : List Call' := Awc6 :: AwK6
theorem AwK7ok : Calls' Tryz.prog envC AwK7 := calls_cons Awd6 AwK6ok

def Awc7 : Call' := ⟨15, [.agg [.os none 1 2 [.sc (.int .i64 1), .sc (.int .i64 1)], .os none 0 0 [], .os none 1 3 [.sc (.int .i64 0), .sc (.int .i64 0), .ps 0 0 []], .os none 0 0 [], .os none 0 0 [], .os none 0 0 [], .os none 0 0 [], .p (.sc (.bool false)), .p (.sc (.int .u32 0)), .os none 0 0 [], .os none 0 0 []]], [], .p (.sc (.int .i64 0)), []⟩
theorem Awd7 : Does Tryz.prog envC Awc7.g Awc7.args Awc7.m Awc7.v Awc7.m' := does_fast names (K := AwK7) AwK7ok (n := 10000000) (by kernel_rfl)
def AwK8 : List Call' := Awc7 :: AwK7
theorem AwK8ok : Calls' Tryz.prog envC AwK8 := calls_cons Awd7 AwK7ok

def Awc8 : Call' := ⟨95, [.p (.ps 1 8 [.sc (.int .i64 65), .sc (.int .i64 0), .sc (.int .u32 0), .sc (.int .u32 0), .sc (.int .i32 0), .ps 0 0 [], .ps 0 0 [], .ps 0 0 []])], [], .p (.sc (.int .i64 0)), []⟩
theorem Awd8 : Does Tryz.prog envC Awc8.g Awc8.args Awc8.m Awc8.v Awc8.m' := does_fast names (K := AwK8) AwK8ok (n := 10000000) (by kernel_rfl)
def AwK9 : List Call' := Awc8 :: AwK8
theorem AwK9ok : Calls' Tryz.prog envC AwK9 := calls_cons Awd8 AwK8ok

def Awc9 : Call' := ⟨30, [.agg [.os none 2 2 [.sc (.int .i64 1), .sc (.int .i64 1), .sc (.int .i64 0), .sc (.int .i64 0)], .os none 1 3 [.sc (.string ⟨#[104, 111, 115, 116]⟩), .sc (.string ⟨#[102]⟩), .sc (.int .i64 0)], .os none 1 3 [.sc (.int .i64 1), .sc (.int .i64 0), .ps 0 0 []], .os none 1 3 [.sc (.int .u32 1), .sc (.int .u32 0), .sc (.bool false)], .os none 1 3 [.sc (.int .u32 1), .sc (.int .u32 0), .sc (.bool false)], .os none 2 2 [.sc (.bool true), .ps 1 8 [.sc (.int .i64 65), .sc (.int .i64 0), .sc (.int .u32 0), .sc (.int .u32 0), .sc (.int .i32 0), .ps 0 0 [], .ps 0 0 [], .ps 0 0 []], .sc (.bool false), .ps 1 8 [.sc (.int .i64 65), .sc (.int .i64 0), .sc (.int .u32 0), .sc (.int .u32 0), .sc (.int .i32 0), .ps 0 0 [], .ps 0 0 [], .ps 0 0 []]], .os none 0 0 [], .p (.sc (.bool false)), .p (.sc (.int .u32 0)), .os none 0 0 [], .os none 0 0 []]], [], .p (.sc (.int .i64 0)), []⟩
theorem Awd9 : Does Tryz.prog envC Awc9.g Awc9.args Awc9.m Awc9.v Awc9.m' := does_fast names (K := AwK9) AwK9ok (n := 10000000) (by kernel_rfl)
def AwK10 : List Call' := Awc9 :: AwK9
theorem AwK10ok : Calls' Tryz.prog envC AwK10 := calls_cons Awd9 AwK9ok

def Awc10 : Call' := ⟨10, [.agg [.os none 2 2 [.sc (.int .i64 1), .sc (.int .i64 1), .sc (.int .i64 0), .sc (.int .i64 0)], .os none 1 3 [.sc (.string ⟨#[104, 111, 115, 116]⟩), .sc (.string ⟨#[102]⟩), .sc (.int .i64 0)], .os none 1 3 [.sc (.int .i64 1), .sc (.int .i64 0), .ps 0 0 []], .os none 1 3 [.sc (.int .u32 1), .sc (.int .u32 0), .sc (.bool false)], .os none 1 3 [.sc (.int .u32 1), .sc (.int .u32 0), .sc (.bool false)], .os none 2 2 [.sc (.bool true), .ps 1 8 [.sc (.int .i64 65), .sc (.int .i64 0), .sc (.int .u32 0), .sc (.int .u32 0), .sc (.int .i32 0), .ps 0 0 [], .ps 0 0 [], .ps 0 0 []], .sc (.bool false), .ps 1 8 [.sc (.int .i64 65), .sc (.int .i64 0), .sc (.int .u32 0), .sc (.int .u32 0), .sc (.int .i32 0), .ps 0 0 [], .ps 0 0 [], .ps 0 0 []]], .os none 0 0 [], .p (.sc (.bool false)), .p (.sc (.int .u32 0)), .os none 0 0 [], .os none 0 0 []]], [], .agg [.p (.sc (.int .i64 0)), .p (.sc (.int .i64 0)), .p (.sc (.int .i64 0)), .p (.sc (.int .i64 0))], []⟩
theorem Awd10 : Does Tryz.prog envC Awc10.g Awc10.args Awc10.m Awc10.v Awc10.m' := does_fast names (K := AwK10) AwK10ok (n := 10000000) (by kernel_rfl)
def AwK11 : List Call' := Awc10 :: AwK10
theorem AwK11ok : Calls' Tryz.prog envC AwK11 := calls_cons Awd10 AwK10ok

theorem Awdoes : Does Tryz.prog envC 12 [] [] (.p (.sc (.bool true))) [] := does_fast names (K := AwK11) AwK11ok (n := 10000000) (by kernel_rfl)

end Go.Proofs.YtgbphddecpjlhaaGreatDoor.N
end
