/-
  PlaceKnown: its call, run, in pieces (2 of 3).
-/
import Derived.Test.YtelifcbpgfhakaaGreatDoorPlaceKnown1
namespace Go.Proofs.YtelifcbpgfhakaaGreatDoor.N
open Go Go.Am

def PlaceKnownc14 : Call' := ⟨16, [.agg [.os none 1 2 [.sc (.int .i64 0), .sc (.int .i64 1)], .os none 1 3 [.sc (.string ⟨#[104, 111, 115, 116]⟩), .sc (.string ⟨#[103, 101, 116, 99]⟩), .sc (.int .i64 0)], .os none 0 0 [], .os none 0 0 [], .os none 0 0 [], .os none 0 0 [], .os none 0 0 [], .p (.sc (.bool false)), .p (.sc (.int .u32 0)), .os none 0 0 [], .os none 0 0 []]], [], .agg [.p (.sc (.int .i64 0)), .p (.sc (.int .i64 0)), .p (.sc (.int .i64 0)), .p (.sc (.int .i64 0))], []⟩
theorem PlaceKnownd14 : Does Tryz.prog env PlaceKnownc14.g PlaceKnownc14.args PlaceKnownc14.m PlaceKnownc14.v PlaceKnownc14.m' := does_of_known names (K := PlaceKnownK14) PlaceKnownK14ok (n := 10000000) (by kernel_rfl)
def PlaceKnownK15 : List Call' := PlaceKnownc14 :: PlaceKnownK14
theorem PlaceKnownK15ok : Calls' Tryz.prog env PlaceKnownK15 := calls_cons PlaceKnownd14 PlaceKnownK14ok

def PlaceKnownc15 : Call' := ⟨80, [.agg [.os none 1 2 [.sc (.int .i64 1), .sc (.int .i64 0)], .os none 1 3 [.sc (.string ⟨#[104, 111, 115, 116]⟩), .sc (.string ⟨#[103, 101, 116, 99]⟩), .sc (.int .i64 0)], .os none 0 0 [], .os none 0 0 [], .os none 0 0 [], .os none 0 0 [], .os none 0 0 [], .p (.sc (.bool false)), .p (.sc (.int .u32 0)), .os none 0 0 [], .os none 0 0 []]], [], .p (.sc (.int .i64 0)), []⟩
theorem PlaceKnownd15 : Does Tryz.prog env PlaceKnownc15.g PlaceKnownc15.args PlaceKnownc15.m PlaceKnownc15.v PlaceKnownc15.m' := does_of_known names (K := PlaceKnownK15) PlaceKnownK15ok (n := 10000000) (by kernel_rfl)
def PlaceKnownK16 : List Call' := PlaceKnownc15 :: PlaceKnownK15
theorem PlaceKnownK16ok : Calls' Tryz.prog env PlaceKnownK16 := calls_cons PlaceKnownd15 PlaceKnownK15ok

def PlaceKnownc16 : Call' := ⟨39, [.agg [.os none 1 2 [.sc (.int .i64 1), .sc (.int .i64 0)], .os none 1 3 [.sc (.string ⟨#[104, 111, 115, 116]⟩), .sc (.string ⟨#[103, 101, 116, 99]⟩), .sc (.int .i64 0)], .os none 0 0 [], .os none 0 0 [], .os none 0 0 [], .os none 0 0 [], .os none 0 0 [], .p (.sc (.bool false)), .p (.sc (.int .u32 0)), .os none 0 0 [], .os none 0 0 []]], [], .p (.sc (.int .i64 0)), []⟩
theorem PlaceKnownd16 : Does Tryz.prog env PlaceKnownc16.g PlaceKnownc16.args PlaceKnownc16.m PlaceKnownc16.v PlaceKnownc16.m' := does_of_known names (K := PlaceKnownK16) PlaceKnownK16ok (n := 10000000) (by kernel_rfl)
def PlaceKnownK17 : List Call' := PlaceKnownc16 :: PlaceKnownK16
theorem PlaceKnownK17ok : Calls' Tryz.prog env PlaceKnownK17 := calls_cons PlaceKnownd16 PlaceKnownK16ok

def PlaceKnownc17 : Call' := ⟨16, [.agg [.os none 1 2 [.sc (.int .i64 1), .sc (.int .i64 0)], .os none 1 3 [.sc (.string ⟨#[104, 111, 115, 116]⟩), .sc (.string ⟨#[103, 101, 116, 99]⟩), .sc (.int .i64 0)], .os none 0 0 [], .os none 0 0 [], .os none 0 0 [], .os none 0 0 [], .os none 0 0 [], .p (.sc (.bool false)), .p (.sc (.int .u32 0)), .os none 0 0 [], .os none 0 0 []]], [], .agg [.p (.sc (.int .i64 0)), .p (.sc (.int .i64 0)), .p (.sc (.int .i64 0)), .p (.sc (.int .i64 0))], []⟩
theorem PlaceKnownd17 : Does Tryz.prog env PlaceKnownc17.g PlaceKnownc17.args PlaceKnownc17.m PlaceKnownc17.v PlaceKnownc17.m' := does_of_known names (K := PlaceKnownK17) PlaceKnownK17ok (n := 10000000) (by kernel_rfl)
def PlaceKnownK18 : List Call' := PlaceKnownc17 :: PlaceKnownK17
theorem PlaceKnownK18ok : Calls' Tryz.prog env PlaceKnownK18 := calls_cons PlaceKnownd17 PlaceKnownK17ok

def PlaceKnownc18 : Call' := ⟨78, [.agg [.os none 0 0 [], .os none 0 0 [], .os none 0 0 [], .os none 0 0 [], .os none 0 0 [], .os none 1 2 [.sc (.bool true), .ps 1 8 [.sc (.int .i64 65), .sc (.int .i64 0), .sc (.int .u32 0), .sc (.int .u32 0), .sc (.int .i32 7), .ps 0 0 [], .ps 0 0 [], .ps 0 0 []]], .os none 0 0 [], .p (.sc (.bool false)), .p (.sc (.int .u32 0)), .os none 0 0 [], .os none 0 0 []]], [], .p (.sc (.int .i64 0)), []⟩
theorem PlaceKnownd18 : Does Tryz.prog env PlaceKnownc18.g PlaceKnownc18.args PlaceKnownc18.m PlaceKnownc18.v PlaceKnownc18.m' := does_of_known names (K := PlaceKnownK18) PlaceKnownK18ok (n := 10000000) (by kernel_rfl)
def PlaceKnownK19 : List Call' := PlaceKnownc18 :: PlaceKnownK18
theorem PlaceKnownK19ok : Calls' Tryz.prog env PlaceKnownK19 := calls_cons PlaceKnownd18 PlaceKnownK18ok

def PlaceKnownc19 : Call' := ⟨80, [.agg [.os none 0 0 [], .os none 0 0 [], .os none 0 0 [], .os none 0 0 [], .os none 0 0 [], .os none 1 2 [.sc (.bool true), .ps 1 8 [.sc (.int .i64 65), .sc (.int .i64 0), .sc (.int .u32 0), .sc (.int .u32 0), .sc (.int .i32 7), .ps 0 0 [], .ps 0 0 [], .ps 0 0 []]], .os none 0 0 [], .p (.sc (.bool false)), .p (.sc (.int .u32 0)), .os none 0 0 [], .os none 0 0 []]], [], .p (.sc (.int .i64 0)), []⟩
theorem PlaceKnownd19 : Does Tryz.prog env PlaceKnownc19.g PlaceKnownc19.args PlaceKnownc19.m PlaceKnownc19.v PlaceKnownc19.m' := does_of_known names (K := PlaceKnownK19) PlaceKnownK19ok (n := 10000000) (by kernel_rfl)
def PlaceKnownK20 : List Call' := PlaceKnownc19 :: PlaceKnownK19
theorem PlaceKnownK20ok : Calls' Tryz.prog env PlaceKnownK20 := calls_cons PlaceKnownd19 PlaceKnownK19ok

def PlaceKnownc20 : Call' := ⟨40, [.agg [.os none 0 0 [], .os none 0 0 [], .os none 0 0 [], .os none 0 0 [], .os none 0 0 [], .os none 1 2 [.sc (.bool true), .ps 1 8 [.sc (.int .i64 65), .sc (.int .i64 0), .sc (.int .u32 0), .sc (.int .u32 0), .sc (.int .i32 7), .ps 0 0 [], .ps 0 0 [], .ps 0 0 []]], .os none 0 0 [], .p (.sc (.bool false)), .p (.sc (.int .u32 0)), .os none 0 0 [], .os none 0 0 []], .p (.sc (.int .i64 6))], [], .agg [.p (.sc (.int .i64 0)), .p (.sc (.int .i64 0)), .p (.sc (.int .i64 0)), .p (.sc (.int .i64 0))], []⟩
theorem PlaceKnownd20 : Does Tryz.prog env PlaceKnownc20.g PlaceKnownc20.args PlaceKnownc20.m PlaceKnownc20.v PlaceKnownc20.m' := does_of_known names (K := PlaceKnownK20) PlaceKnownK20ok (n := 10000000) (by kernel_rfl)
def PlaceKnownK21 : List Call' := PlaceKnownc20 :: PlaceKnownK20
theorem PlaceKnownK21ok : Calls' Tryz.prog env PlaceKnownK21 := calls_cons PlaceKnownd20 PlaceKnownK20ok

def PlaceKnownc21 : Call' := ⟨16, [.agg [.os none 0 0 [], .os none 0 0 [], .os none 0 0 [], .os none 0 0 [], .os none 0 0 [], .os none 1 2 [.sc (.bool true), .ps 1 8 [.sc (.int .i64 65), .sc (.int .i64 0), .sc (.int .u32 0), .sc (.int .u32 0), .sc (.int .i32 7), .ps 0 0 [], .ps 0 0 [], .ps 0 0 []]], .os none 0 0 [], .p (.sc (.bool false)), .p (.sc (.int .u32 0)), .os none 0 0 [], .os none 0 0 []]], [], .agg [.p (.sc (.int .i64 0)), .p (.sc (.int .i64 0)), .p (.sc (.int .i64 0)), .p (.sc (.int .i64 0))], []⟩
theorem PlaceKnownd21 : Does Tryz.prog env PlaceKnownc21.g PlaceKnownc21.args PlaceKnownc21.m PlaceKnownc21.v PlaceKnownc21.m' := does_of_known names (K := PlaceKnownK21) PlaceKnownK21ok (n := 10000000) (by kernel_rfl)
def PlaceKnownK22 : List Call' := PlaceKnownc21 :: PlaceKnownK21
theorem PlaceKnownK22ok : Calls' Tryz.prog env PlaceKnownK22 := calls_cons PlaceKnownd21 PlaceKnownK21ok

def PlaceKnownc22 : Call' := ⟨8, [.agg [.os none 0 0 [], .os none 0 0 [], .os none 0 0 [], .os none 0 0 [], .os none 0 0 [], .os none 1 2 [.sc (.bool true), .ps 1 8 [.sc (.int .i64 65), .sc (.int .i64 0), .sc (.int .u32 0), .sc (.int .u32 0), .sc (.int .i32 7), .ps 0 0 [], .ps 0 0 [], .ps 0 0 []]], .os none 0 0 [], .p (.sc (.bool false)), .p (.sc (.int .u32 0)), .os none 0 0 [], .os none 0 0 []]], [], .tup [.mp 0 0, .p (.sc (.int .i64 0))], [.ac [.os none 0 0 [], .os none 0 0 [], .os none 0 0 [], .os none 0 0 [], .os none 0 0 [], .os (some 1) 1 2 [.sc (.bool true), .ps 1 8 [.sc (.int .i64 65), .sc (.int .i64 0), .sc (.int .u32 0), .sc (.int .u32 0), .sc (.int .i32 7), .ps 0 0 [], .ps 0 0 [], .ps 0 0 []]], .os none 0 0 [], .p (.sc (.bool false)), .p (.sc (.int .u32 0)), .os none 0 0 [], .os none 0 0 [], .p (.sc (.pointer none)), .os none 0 0 [], .ms 2 0 1 1 none, .os none 0 0 [], .p (.sc (.bool true))], .tok, .ob (.gr 22) [.p (.sc (.int .u32 7))]]⟩
theorem PlaceKnownd22 : Does Tryz.prog env PlaceKnownc22.g PlaceKnownc22.args PlaceKnownc22.m PlaceKnownc22.v PlaceKnownc22.m' := does_of_known names (K := PlaceKnownK22) PlaceKnownK22ok (n := 10000000) (by kernel_rfl)
def PlaceKnownK23 : List Call' := PlaceKnownc22 :: PlaceKnownK22
theorem PlaceKnownK23ok : Calls' Tryz.prog env PlaceKnownK23 := calls_cons PlaceKnownd22 PlaceKnownK22ok

def PlaceKnownc23 : Call' := ⟨115, [.agg [.os none 1 2 [.sc (.int .i64 0), .sc (.int .i64 0)], .os none 0 0 [], .os none 1 3 [.sc (.int .i64 0), .sc (.int .i64 0), .ps 0 0 []], .os none 1 3 [.sc (.int .u32 3), .sc (.int .u32 0), .sc (.bool false)], .os none 0 0 [], .os none 0 0 [], .os none 0 0 [], .p (.sc (.bool false)), .p (.sc (.int .u32 0)), .os none 1 2 [.ps 1 8 [.sc (.int .i64 65), .sc (.int .i64 0), .sc (.int .u32 0), .sc (.int .u32 0), .sc (.int .i32 1), .ps 0 0 [], .ps 0 0 [], .ps 0 0 []], .ps 2 1 [.sc (.int .u32 0), .sc (.int .u32 0)]], .os none 0 0 []], .p (.sc (.int .i64 141))], [], .p (.sc (.int .i64 0)), []⟩
theorem PlaceKnownd23 : Does Tryz.prog env PlaceKnownc23.g PlaceKnownc23.args PlaceKnownc23.m PlaceKnownc23.v PlaceKnownc23.m' := does_of_known names (K := PlaceKnownK23) PlaceKnownK23ok (n := 10000000) (by kernel_rfl)
def PlaceKnownK24 : List Call' := PlaceKnownc23 :: PlaceKnownK23
theorem PlaceKnownK24ok : Calls' Tryz.prog env PlaceKnownK24 := calls_cons PlaceKnownd23 PlaceKnownK23ok

def PlaceKnownc24 : Call' := ⟨115, [.agg [.os none 1 2 [.sc (.int .i64 0), .sc (.int .i64 0)], .os none 0 0 [], .os none 1 3 [.sc (.int .i64 0), .sc (.int .i64 0), .ps 0 0 []], .os none 1 3 [.sc (.int .u32 3), .sc (.int .u32 0), .sc (.bool false)], .os none 0 0 [], .os none 0 0 [], .os none 0 0 [], .p (.sc (.bool false)), .p (.sc (.int .u32 0)), .os none 1 2 [.ps 1 8 [.sc (.int .i64 65), .sc (.int .i64 0), .sc (.int .u32 0), .sc (.int .u32 0), .sc (.int .i32 1), .ps 0 0 [], .ps 0 0 [], .ps 0 0 []], .ps 2 1 [.sc (.int .u32 0), .sc (.int .u32 0)]], .os none 0 0 []], .p (.sc (.int .i64 2))], [], .p (.sc (.int .i64 0)), []⟩
theorem PlaceKnownd24 : Does Tryz.prog env PlaceKnownc24.g PlaceKnownc24.args PlaceKnownc24.m PlaceKnownc24.v PlaceKnownc24.m' := does_of_known names (K := PlaceKnownK24) PlaceKnownK24ok (n := 10000000) (by kernel_rfl)
def PlaceKnownK25 : List Call' := PlaceKnownc24 :: PlaceKnownK24
theorem PlaceKnownK25ok : Calls' Tryz.prog env PlaceKnownK25 := calls_cons PlaceKnownd24 PlaceKnownK24ok

def PlaceKnownc25 : Call' := ⟨39, [.agg [.os none 1 2 [.sc (.int .i64 0), .sc (.int .i64 0)], .os none 0 0 [], .os none 1 3 [.sc (.int .i64 0), .sc (.int .i64 0), .ps 0 0 []], .os none 1 3 [.sc (.int .u32 3), .sc (.int .u32 0), .sc (.bool false)], .os none 0 0 [], .os none 0 0 [], .os none 0 0 [], .p (.sc (.bool false)), .p (.sc (.int .u32 0)), .os none 1 2 [.ps 1 8 [.sc (.int .i64 65), .sc (.int .i64 0), .sc (.int .u32 0), .sc (.int .u32 0), .sc (.int .i32 1), .ps 0 0 [], .ps 0 0 [], .ps 0 0 []], .ps 2 1 [.sc (.int .u32 0), .sc (.int .u32 0)]], .os none 0 0 []]], [], .p (.sc (.int .i64 0)), []⟩
theorem PlaceKnownd25 : Does Tryz.prog env PlaceKnownc25.g PlaceKnownc25.args PlaceKnownc25.m PlaceKnownc25.v PlaceKnownc25.m' := does_of_known names (K := PlaceKnownK25) PlaceKnownK25ok (n := 10000000) (by kernel_rfl)
def PlaceKnownK26 : List Call' := PlaceKnownc25 :: PlaceKnownK25
theorem PlaceKnownK26ok : Calls' Tryz.prog env PlaceKnownK26 := calls_cons PlaceKnownd25 PlaceKnownK25ok

def PlaceKnownc26 : Call' := ⟨92, [.agg [.os none 1 2 [.sc (.int .i64 0), .sc (.int .i64 0)], .os none 0 0 [], .os none 1 3 [.sc (.int .i64 0), .sc (.int .i64 0), .ps 0 0 []], .os none 1 3 [.sc (.int .u32 3), .sc (.int .u32 0), .sc (.bool false)], .os none 0 0 [], .os none 0 0 [], .os none 0 0 [], .p (.sc (.bool false)), .p (.sc (.int .u32 0)), .os none 1 2 [.ps 1 8 [.sc (.int .i64 65), .sc (.int .i64 0), .sc (.int .u32 0), .sc (.int .u32 0), .sc (.int .i32 1), .ps 0 0 [], .ps 0 0 [], .ps 0 0 []], .ps 2 1 [.sc (.int .u32 0), .sc (.int .u32 0)]], .os none 0 0 []], .agg [.p (.ps 1 8 [.sc (.int .i64 65), .sc (.int .i64 0), .sc (.int .u32 0), .sc (.int .u32 0), .sc (.int .i32 1), .ps 0 0 [], .ps 0 0 [], .ps 0 0 []]), .p (.ps 2 1 [.sc (.int .u32 0), .sc (.int .u32 0)])], .fn (.func 82) [] []], [], .tup [.p (.sc (.int .i64 0)), .p (.sc (.int .i64 0))], []⟩
theorem PlaceKnownd26 : Does Tryz.prog env PlaceKnownc26.g PlaceKnownc26.args PlaceKnownc26.m PlaceKnownc26.v PlaceKnownc26.m' := does_of_known names (K := PlaceKnownK26) PlaceKnownK26ok (n := 10000000) (by kernel_rfl)
def PlaceKnownK27 : List Call' := PlaceKnownc26 :: PlaceKnownK26
theorem PlaceKnownK27ok : Calls' Tryz.prog env PlaceKnownK27 := calls_cons PlaceKnownd26 PlaceKnownK26ok

def PlaceKnownc27 : Call' := ⟨83, [.p (.sc (.int .i64 10)), .p (.sc (.int .i64 1)), .fn (.func 93) [] [.mp 0 0]], [.ac [.os none 1 2 [.sc (.int .i64 0), .sc (.int .i64 0)], .os none 0 0 [], .os none 1 3 [.sc (.int .i64 0), .sc (.int .i64 0), .ps 0 0 []], .os none 1 3 [.sc (.int .u32 3), .sc (.int .u32 0), .sc (.bool false)], .os none 0 0 [], .os none 0 0 [], .os none 0 0 [], .p (.sc (.bool false)), .p (.sc (.int .u32 0)), .os none 1 2 [.ps 1 8 [.sc (.int .i64 65), .sc (.int .i64 0), .sc (.int .u32 0), .sc (.int .u32 0), .sc (.int .i32 1), .ps 0 0 [], .ps 0 0 [], .ps 0 0 []], .ps 2 1 [.sc (.int .u32 0), .sc (.int .u32 0)]], .os none 0 0 []]], .agg [.p (.sc (.int .i64 0)), .p (.sc (.int .i64 0)), .p (.sc (.int .i64 0)), .p (.sc (.int .i64 0))], [.ac [.os none 1 2 [.sc (.int .i64 0), .sc (.int .i64 0)], .os none 0 0 [], .os none 1 3 [.sc (.int .i64 0), .sc (.int .i64 0), .ps 0 0 []], .os none 1 3 [.sc (.int .u32 3), .sc (.int .u32 0), .sc (.bool false)], .os none 0 0 [], .os none 0 0 [], .os none 0 0 [], .p (.sc (.bool false)), .p (.sc (.int .u32 0)), .os none 1 2 [.ps 1 8 [.sc (.int .i64 65), .sc (.int .i64 0), .sc (.int .u32 0), .sc (.int .u32 0), .sc (.int .i32 1), .ps 0 0 [], .ps 0 0 [], .ps 0 0 []], .ps 2 1 [.sc (.int .u32 0), .sc (.int .u32 0)]], .os none 0 0 []]]⟩
theorem PlaceKnownd27 : Does Tryz.prog env PlaceKnownc27.g PlaceKnownc27.args PlaceKnownc27.m PlaceKnownc27.v PlaceKnownc27.m' := does_of_known names (K := PlaceKnownK27) PlaceKnownK27ok (n := 10000000) (by kernel_rfl)
def PlaceKnownK28 : List Call' := PlaceKnownc27 :: PlaceKnownK27
theorem PlaceKnownK28ok : Calls' Tryz.prog env PlaceKnownK28 := calls_cons PlaceKnownd27 PlaceKnownK27ok

end Go.Proofs.YtelifcbpgfhakaaGreatDoor.N
