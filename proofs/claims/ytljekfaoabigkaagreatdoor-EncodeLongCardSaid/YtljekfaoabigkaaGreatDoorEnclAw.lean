/-
  EncodeLong: the examples (awake), run in pieces.
-/
import Derived.Test.YtljekfaoabigkaaGreatDoorEnclM
namespace Go.Proofs.YtljekfaoabigkaaGreatDoor.N
open Go Go.Am

def Awc0 : Call' := ⟨7, [.agg [.os none 0 0 [], .os none 0 0 [], .os none 0 0 [], .os none 0 0 [], .os none 0 0 [], .os none 0 0 [], .os none 0 0 [], .p (.sc (.bool false)), .p (.sc (.int .u32 0)), .os none 0 0 [], .os none 0 0 []]], [], .tup [.os none 8 1 [.sc (.int .u8 0), .sc (.int .u8 97), .sc (.int .u8 115), .sc (.int .u8 109), .sc (.int .u8 1), .sc (.int .u8 0), .sc (.int .u8 0), .sc (.int .u8 0)], .p (.sc (.int .i64 0))], []⟩
theorem Awd0 : Does Tryz.prog env Awc0.g Awc0.args Awc0.m Awc0.v Awc0.m' := does_fast names (K := []) calls_nil (n := 10000000) (by kernel_rfl)
def AwK1 : List Call' := Awc0 :: []
theorem AwK1ok : Calls' Tryz.prog env AwK1 := calls_cons Awd0 calls_nil

def Awc1 : Call' := ⟨7, [.agg [.os none 0 0 [], .os none 0 0 [], .os none 0 0 [], .os none 0 0 [], .os none 1 3 [.sc (.int .u32 1), .sc (.int .u32 2), .sc (.bool true)], .os none 0 0 [], .os none 0 0 [], .p (.sc (.bool false)), .p (.sc (.int .u32 0)), .os none 0 0 [], .os none 0 0 []]], [], .tup [.os (some 0) 14 1 [.sc (.int .u8 0), .sc (.int .u8 97), .sc (.int .u8 115), .sc (.int .u8 109), .sc (.int .u8 1), .sc (.int .u8 0), .sc (.int .u8 0), .sc (.int .u8 0), .sc (.int .u8 5), .sc (.int .u8 4), .sc (.int .u8 1), .sc (.int .u8 1), .sc (.int .u8 1), .sc (.int .u8 2)], .p (.sc (.int .i64 0))], [.tok]⟩
theorem Awd1 : Does Tryz.prog env Awc1.g Awc1.args Awc1.m Awc1.v Awc1.m' := does_fast names (K := AwK1) AwK1ok (n := 10000000) (by kernel_rfl)
def AwK2 : List Call' := Awc1 :: AwK1
theorem AwK2ok : Calls' Tryz.prog env AwK2 := calls_cons Awd1 AwK1ok

theorem Awdoes : Does Tryz.prog env 9 [] [] (.p (.sc (.bool true))) [] := does_fast names (K := AwK2) AwK2ok (n := 10000000) (by kernel_rfl)

end Go.Proofs.YtljekfaoabigkaaGreatDoor.N
