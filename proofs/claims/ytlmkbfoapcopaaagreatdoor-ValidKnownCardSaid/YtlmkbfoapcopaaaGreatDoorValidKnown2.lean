/-
  ValidKnown: its call, run, in pieces (2 of 3).
-/
import Derived.Test.YtlmkbfoapcopaaaGreatDoorValidKnown1
namespace Go.Proofs.YtlmkbfoapcopaaaGreatDoor.N
open Go Go.Am

def vkc12 : Call' := ⟨39, [.p (.ps 2 8 [.sc (.int .i64 32), .sc (.int .i64 0), .sc (.int .u32 0), .sc (.int .u32 0), .sc (.int .i32 0), .ps 0 0 [], .ps 0 0 [], .ps 0 0 [], .sc (.int .i64 4), .sc (.int .i64 1), .sc (.int .u32 0), .sc (.int .u32 0), .sc (.int .i32 0), .ps 0 0 [], .ps 1 8 [.sc (.int .i64 65), .sc (.int .i64 0), .sc (.int .u32 0), .sc (.int .u32 0), .sc (.int .i32 1), .ps 0 0 [], .ps 0 0 [], .ps 0 0 []], .ps 0 0 []])], [], .p (.sc (.int .i64 0)), []⟩
theorem vkd12 : Does Tryz.prog env vkc12.g vkc12.args vkc12.m vkc12.v vkc12.m' := does_of_known names (K := vkK12) vkK12ok (n := 10000000) (by kernel_rfl)
def vkK13 : List Call' := vkc12 :: vkK12
theorem vkK13ok : Calls' Tryz.prog env vkK13 := calls_cons vkd12 vkK12ok

def vkc13 : Call' := ⟨27, [.agg [.os none 1 2 [.sc (.int .i64 1), .sc (.int .i64 1)], .os none 0 0 [], .os none 1 3 [.sc (.int .i64 0), .sc (.int .i64 0), .ps 2 8 [.sc (.int .i64 32), .sc (.int .i64 0), .sc (.int .u32 0), .sc (.int .u32 0), .sc (.int .i32 0), .ps 0 0 [], .ps 0 0 [], .ps 0 0 [], .sc (.int .i64 4), .sc (.int .i64 1), .sc (.int .u32 0), .sc (.int .u32 0), .sc (.int .i32 0), .ps 0 0 [], .ps 1 8 [.sc (.int .i64 65), .sc (.int .i64 0), .sc (.int .u32 0), .sc (.int .u32 0), .sc (.int .i32 1), .ps 0 0 [], .ps 0 0 [], .ps 0 0 []], .ps 0 0 []]], .os none 0 0 [], .os none 0 0 [], .os none 0 0 [], .os none 0 0 [], .p (.sc (.bool false)), .p (.sc (.int .u32 0)), .os none 0 0 [], .os none 0 0 []]], [], .p (.sc (.int .i64 0)), []⟩
theorem vkd13 : Does Tryz.prog env vkc13.g vkc13.args vkc13.m vkc13.v vkc13.m' := does_of_known names (K := vkK13) vkK13ok (n := 10000000) (by kernel_rfl)
def vkK14 : List Call' := vkc13 :: vkK13
theorem vkK14ok : Calls' Tryz.prog env vkK14 := calls_cons vkd13 vkK13ok

def vkc14 : Call' := ⟨28, [.agg [.os none 1 2 [.sc (.int .i64 1), .sc (.int .i64 1)], .os none 0 0 [], .os none 1 3 [.sc (.int .i64 0), .sc (.int .i64 0), .ps 2 8 [.sc (.int .i64 32), .sc (.int .i64 0), .sc (.int .u32 0), .sc (.int .u32 0), .sc (.int .i32 0), .ps 0 0 [], .ps 0 0 [], .ps 0 0 [], .sc (.int .i64 4), .sc (.int .i64 1), .sc (.int .u32 0), .sc (.int .u32 0), .sc (.int .i32 0), .ps 0 0 [], .ps 1 8 [.sc (.int .i64 65), .sc (.int .i64 0), .sc (.int .u32 0), .sc (.int .u32 0), .sc (.int .i32 1), .ps 0 0 [], .ps 0 0 [], .ps 0 0 []], .ps 0 0 []]], .os none 0 0 [], .os none 0 0 [], .os none 0 0 [], .os none 0 0 [], .p (.sc (.bool false)), .p (.sc (.int .u32 0)), .os none 0 0 [], .os none 0 0 []], .p (.sc (.int .i64 0))], [], .tup [.p (.sc (.int .i64 200)), .p (.sc (.int .i64 2))], []⟩
theorem vkd14 : Does Tryz.prog env vkc14.g vkc14.args vkc14.m vkc14.v vkc14.m' := does_of_known names (K := vkK14) vkK14ok (n := 10000000) (by kernel_rfl)
def vkK15 : List Call' := vkc14 :: vkK14
theorem vkK15ok : Calls' Tryz.prog env vkK15 := calls_cons vkd14 vkK14ok

def vkc15 : Call' := ⟨39, [.p (.ps 1 8 [.sc (.int .i64 2), .sc (.int .i64 0), .sc (.int .u32 0), .sc (.int .u32 0), .sc (.int .i32 0), .ps 0 0 [], .ps 2 8 [.sc (.int .i64 65), .sc (.int .i64 0), .sc (.int .u32 0), .sc (.int .u32 0), .sc (.int .i32 1), .ps 0 0 [], .ps 0 0 [], .ps 0 0 [], .sc (.int .i64 14), .sc (.int .i64 0), .sc (.int .u32 1), .sc (.int .u32 0), .sc (.int .i32 0), .ps 1 1 [.sc (.int .u32 0)], .ps 0 0 [], .ps 0 0 []], .ps 0 0 []])], [], .p (.sc (.int .i64 0)), []⟩
theorem vkd15 : Does Tryz.prog env vkc15.g vkc15.args vkc15.m vkc15.v vkc15.m' := does_of_known names (K := vkK15) vkK15ok (n := 10000000) (by kernel_rfl)
def vkK16 : List Call' := vkc15 :: vkK15
theorem vkK16ok : Calls' Tryz.prog env vkK16 := calls_cons vkd15 vkK15ok

def vkc16 : Call' := ⟨27, [.agg [.os none 1 2 [.sc (.int .i64 1), .sc (.int .i64 1)], .os none 0 0 [], .os none 1 3 [.sc (.int .i64 0), .sc (.int .i64 0), .ps 1 8 [.sc (.int .i64 2), .sc (.int .i64 0), .sc (.int .u32 0), .sc (.int .u32 0), .sc (.int .i32 0), .ps 0 0 [], .ps 2 8 [.sc (.int .i64 65), .sc (.int .i64 0), .sc (.int .u32 0), .sc (.int .u32 0), .sc (.int .i32 1), .ps 0 0 [], .ps 0 0 [], .ps 0 0 [], .sc (.int .i64 14), .sc (.int .i64 0), .sc (.int .u32 1), .sc (.int .u32 0), .sc (.int .i32 0), .ps 1 1 [.sc (.int .u32 0)], .ps 0 0 [], .ps 0 0 []], .ps 0 0 []]], .os none 0 0 [], .os none 0 0 [], .os none 0 0 [], .os none 0 0 [], .p (.sc (.bool false)), .p (.sc (.int .u32 0)), .os none 0 0 [], .os none 0 0 []]], [], .p (.sc (.int .i64 0)), []⟩
theorem vkd16 : Does Tryz.prog env vkc16.g vkc16.args vkc16.m vkc16.v vkc16.m' := does_of_known names (K := vkK16) vkK16ok (n := 10000000) (by kernel_rfl)
def vkK17 : List Call' := vkc16 :: vkK16
theorem vkK17ok : Calls' Tryz.prog env vkK17 := calls_cons vkd16 vkK16ok

def vkc17 : Call' := ⟨28, [.agg [.os none 1 2 [.sc (.int .i64 1), .sc (.int .i64 1)], .os none 0 0 [], .os none 1 3 [.sc (.int .i64 0), .sc (.int .i64 0), .ps 1 8 [.sc (.int .i64 2), .sc (.int .i64 0), .sc (.int .u32 0), .sc (.int .u32 0), .sc (.int .i32 0), .ps 0 0 [], .ps 2 8 [.sc (.int .i64 65), .sc (.int .i64 0), .sc (.int .u32 0), .sc (.int .u32 0), .sc (.int .i32 1), .ps 0 0 [], .ps 0 0 [], .ps 0 0 [], .sc (.int .i64 14), .sc (.int .i64 0), .sc (.int .u32 1), .sc (.int .u32 0), .sc (.int .i32 0), .ps 1 1 [.sc (.int .u32 0)], .ps 0 0 [], .ps 0 0 []], .ps 0 0 []]], .os none 0 0 [], .os none 0 0 [], .os none 0 0 [], .os none 0 0 [], .p (.sc (.bool false)), .p (.sc (.int .u32 0)), .os none 0 0 [], .os none 0 0 []], .p (.sc (.int .i64 0))], [], .tup [.p (.sc (.int .i64 214)), .p (.sc (.int .i64 3))], []⟩
theorem vkd17 : Does Tryz.prog env vkc17.g vkc17.args vkc17.m vkc17.v vkc17.m' := does_of_known names (K := vkK17) vkK17ok (n := 10000000) (by kernel_rfl)
def vkK18 : List Call' := vkc17 :: vkK17
theorem vkK18ok : Calls' Tryz.prog env vkK18 := calls_cons vkd17 vkK17ok

def vkc18 : Call' := ⟨42, [.agg [.os none 1 2 [.sc (.int .i64 1), .sc (.int .i64 1)], .os none 0 0 [], .os none 1 3 [.sc (.int .i64 0), .sc (.int .i64 0), .ps 1 8 [.sc (.int .i64 32), .sc (.int .i64 0), .sc (.int .u32 0), .sc (.int .u32 0), .sc (.int .i32 0), .ps 0 0 [], .ps 0 0 [], .ps 0 0 []]], .os none 0 0 [], .os none 0 0 [], .os none 0 0 [], .os none 0 0 [], .p (.sc (.bool false)), .p (.sc (.int .u32 0)), .os none 0 0 [], .os none 0 0 []]], [], .p (.sc (.int .i64 0)), []⟩
theorem vkd18 : Does Tryz.prog env vkc18.g vkc18.args vkc18.m vkc18.v vkc18.m' := does_of_known names (K := vkK18) vkK18ok (n := 10000000) (by kernel_rfl)
def vkK19 : List Call' := vkc18 :: vkK18
theorem vkK19ok : Calls' Tryz.prog env vkK19 := calls_cons vkd18 vkK18ok

def vkc19 : Call' := ⟨44, [.agg [.os none 1 2 [.sc (.int .i64 1), .sc (.int .i64 1)], .os none 0 0 [], .os none 1 3 [.sc (.int .i64 0), .sc (.int .i64 0), .ps 1 8 [.sc (.int .i64 32), .sc (.int .i64 0), .sc (.int .u32 0), .sc (.int .u32 0), .sc (.int .i32 0), .ps 0 0 [], .ps 0 0 [], .ps 0 0 []]], .os none 0 0 [], .os none 0 0 [], .os none 0 0 [], .os none 0 0 [], .p (.sc (.bool false)), .p (.sc (.int .u32 0)), .os none 0 0 [], .os none 0 0 []]], [], .p (.sc (.int .i64 0)), []⟩
theorem vkd19 : Does Tryz.prog env vkc19.g vkc19.args vkc19.m vkc19.v vkc19.m' := does_of_known names (K := vkK19) vkK19ok (n := 10000000) (by kernel_rfl)
def vkK20 : List Call' := vkc19 :: vkK19
theorem vkK20ok : Calls' Tryz.prog env vkK20 := calls_cons vkd19 vkK19ok

def vkc20 : Call' := ⟨28, [.agg [.os none 1 2 [.sc (.int .i64 1), .sc (.int .i64 1)], .os none 0 0 [], .os none 1 3 [.sc (.int .i64 0), .sc (.int .i64 0), .ps 1 8 [.sc (.int .i64 32), .sc (.int .i64 0), .sc (.int .u32 0), .sc (.int .u32 0), .sc (.int .i32 0), .ps 0 0 [], .ps 0 0 [], .ps 0 0 []]], .os none 0 0 [], .os none 0 0 [], .os none 0 0 [], .os none 0 0 [], .p (.sc (.bool false)), .p (.sc (.int .u32 0)), .os none 0 0 [], .os none 0 0 []], .p (.sc (.int .i64 0))], [], .tup [.p (.sc (.int .i64 0)), .p (.sc (.int .i64 0))], []⟩
theorem vkd20 : Does Tryz.prog env vkc20.g vkc20.args vkc20.m vkc20.v vkc20.m' := does_of_known names (K := vkK20) vkK20ok (n := 10000000) (by kernel_rfl)
def vkK21 : List Call' := vkc20 :: vkK20
theorem vkK21ok : Calls' Tryz.prog env vkK21 := calls_cons vkd20 vkK20ok

def vkc21 : Call' := ⟨42, [.agg [.os none 1 2 [.sc (.int .i64 1), .sc (.int .i64 1)], .os none 0 0 [], .os none 1 3 [.sc (.int .i64 0), .sc (.int .i64 0), .ps 1 8 [.sc (.int .i64 32), .sc (.int .i64 0), .sc (.int .u32 1), .sc (.int .u32 0), .sc (.int .i32 0), .ps 0 0 [], .ps 0 0 [], .ps 0 0 []]], .os none 0 0 [], .os none 0 0 [], .os none 0 0 [], .os none 0 0 [], .p (.sc (.bool false)), .p (.sc (.int .u32 0)), .os none 0 0 [], .os none 0 0 []]], [], .p (.sc (.int .i64 0)), []⟩
theorem vkd21 : Does Tryz.prog env vkc21.g vkc21.args vkc21.m vkc21.v vkc21.m' := does_of_known names (K := vkK21) vkK21ok (n := 10000000) (by kernel_rfl)
def vkK22 : List Call' := vkc21 :: vkK21
theorem vkK22ok : Calls' Tryz.prog env vkK22 := calls_cons vkd21 vkK21ok

def vkc22 : Call' := ⟨44, [.agg [.os none 1 2 [.sc (.int .i64 1), .sc (.int .i64 1)], .os none 0 0 [], .os none 1 3 [.sc (.int .i64 0), .sc (.int .i64 0), .ps 1 8 [.sc (.int .i64 32), .sc (.int .i64 0), .sc (.int .u32 1), .sc (.int .u32 0), .sc (.int .i32 0), .ps 0 0 [], .ps 0 0 [], .ps 0 0 []]], .os none 0 0 [], .os none 0 0 [], .os none 0 0 [], .os none 0 0 [], .p (.sc (.bool false)), .p (.sc (.int .u32 0)), .os none 0 0 [], .os none 0 0 []]], [], .p (.sc (.int .i64 0)), []⟩
theorem vkd22 : Does Tryz.prog env vkc22.g vkc22.args vkc22.m vkc22.v vkc22.m' := does_of_known names (K := vkK22) vkK22ok (n := 10000000) (by kernel_rfl)
def vkK23 : List Call' := vkc22 :: vkK22
theorem vkK23ok : Calls' Tryz.prog env vkK23 := calls_cons vkd22 vkK22ok

def vkc23 : Call' := ⟨12, [.agg [.os none 1 2 [.sc (.int .i64 1), .sc (.int .i64 1)], .os none 0 0 [], .os none 1 3 [.sc (.int .i64 0), .sc (.int .i64 0), .ps 1 8 [.sc (.int .i64 32), .sc (.int .i64 0), .sc (.int .u32 1), .sc (.int .u32 0), .sc (.int .i32 0), .ps 0 0 [], .ps 0 0 [], .ps 0 0 []]], .os none 0 0 [], .os none 0 0 [], .os none 0 0 [], .os none 0 0 [], .p (.sc (.bool false)), .p (.sc (.int .u32 0)), .os none 0 0 [], .os none 0 0 []], .p (.sc (.int .i64 0))], [], .tup [.p (.sc (.int .i64 6)), .p (.sc (.int .i64 1))], []⟩
theorem vkd23 : Does Tryz.prog env vkc23.g vkc23.args vkc23.m vkc23.v vkc23.m' := does_of_known names (K := vkK23) vkK23ok (n := 10000000) (by kernel_rfl)
def vkK24 : List Call' := vkc23 :: vkK23
theorem vkK24ok : Calls' Tryz.prog env vkK24 := calls_cons vkd23 vkK23ok

end Go.Proofs.YtlmkbfoapcopaaaGreatDoor.N
