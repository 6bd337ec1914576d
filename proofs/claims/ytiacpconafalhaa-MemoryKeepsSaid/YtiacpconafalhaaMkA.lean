/-
  A memory of one or two pages, of which one at most is written: how it stands, what is set, what is got.
-/
import Derived.Test.YtiacpconafalhaaChecked
import Derived.Test.YtiacpconafalhaaAm26
import Derived.Test.YtiacpconafalhaaAm22
import Derived.Test.YtiacpconafalhaaAm19b
namespace Go.Proofs.Ytiacpconafalhaa.N
open Go Go.Am

def env : Env where
  glob := noGlob.glob
  wr _ _ := false
  keep := keepAt [(6, 4, [0, 1, 21, 22, 23]), (7, 6, [0, 4, 13, 37, 38]), (10, 6, [0, 1, 8, 27, 28]), (8, 6, [0, 1, 10, 12, 13, 40, 41])]
  told f d := cond (Nat.beq f 3 && Nat.beq d 130) (some (sB false)) none

theorem names : NamesOk Try.prog := namesOk_of (by kernel_rfl)

/-- A page of noughts, as it is made. -/
noncomputable def bigA : List AV := (zeroCells Try.prog 58).getD []
noncomputable def bigL : List PV := bigA.map pvOf

/-- No page is written; one. -/
abbrev mN (n : Int) : Mem := [.ac [.vm 1, .p (.sc (.int .u32 n)), .p (.sc (.int .u32 2))], .ob (.map [] [] 0) []]
abbrev mS (n : Int) (c : List PV) : Mem := [.ac [.vm 1, .p (.sc (.int .u32 n)), .p (.sc (.int .u32 2))], .ob (.map [.int .u32 0] [0] 1) [.mp 2 0], .pc c]

def noC (_ : FuncId) (_ : List AV) (_ : Mem) : Option (AV × Mem) := none

/-- How many noughts there are, if nothing else is. -/
def allZ : List PV → Nat → Bool
  | [], n => Nat.beq n 0
  | .sc (.int .u8 0) :: r, n + 1 => allZ r n
  | _ :: _, _ => false

theorem allZ_eq : ∀ (l : List PV) (n : Nat), allZ l n = true → l = List.replicate n (.sc (.int .u8 0))
  | [], n, h => by
    obtain rfl := Nat.eq_of_beq_eq_true h
    rfl
  | x :: r, n, h => by
    unfold allZ at h
    split at h
    · rename_i e; cases e
    · rename_i e; cases e; rw [allZ_eq _ _ h]; rfl
    · cases h

theorem bigL_eq : bigL = List.replicate 65536 (.sc (.int .u8 0)) := allZ_eq _ _ (by kernel_rfl)

end Go.Proofs.Ytiacpconafalhaa.N
