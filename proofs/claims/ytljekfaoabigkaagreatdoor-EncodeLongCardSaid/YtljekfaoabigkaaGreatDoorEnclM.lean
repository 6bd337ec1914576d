/-
  EncodeLong: what the two encoders are asked, and what they tell: too long, or a list of some length.
-/
import Derived.Test.YtljekfaoabigkaaGreatDoorEnclA
namespace Go.Proofs.YtljekfaoabigkaaGreatDoor.N
open Go Go.Am

/-- A module with one data alone, of N noughts. -/
def mArg (N : Nat) : AV := .agg [.os none 0 0 [], .os none 0 0 [], .os none 0 0 [], .os none 0 0 [], .os none 0 0 [], .os none 0 0 [], .os none 0 0 [], .p (.sc (.bool false)), .p (.sc (.int .u32 0)), .os none 0 0 [],
  .os none 1 2 [.ps 0 0 [], .ps N 1 (List.replicate N (.sc (.int .u8 0)))]]

def vLong : AV := .tup [.os none 0 0 [], .p (.sc (.int .i64 3))]
def vFit (L : Nat) (cells : List PV) : AV := .tup [.os (some 0) L 1 cells, .p (.sc (.int .i64 0))]

def isLong (r : Option Out) : Bool := match r with
  | some (.ret (.tup [.os none 0 0 [], .p (.sc (.int .i64 e))]) []) => decide (e = 3)
  | _ => false

def isFit (r : Option Out) (L : Nat) : Bool := match r with
  | some (.ret (.tup [.os (some 0) len 1 _, .p (.sc (.int .i64 e))]) [.tok]) => Nat.beq len L && decide (e = 0)
  | _ => false

theorem long_does {f N : Nat} (h : isLong (execXF Tryz.prog env [] 10000000 f [mArg N] []) = true) : Does Tryz.prog env f [mArg N] [] vLong [] := by
  unfold isLong at h
  split at h
  · rename_i e hx
    have := of_decide_eq_true h
    subst this
    exact does_fast names calls_nil hx
  · cases h

theorem fit_does {f N L : Nat} (h : isFit (execXF Tryz.prog env [] 10000000 f [mArg N] []) L = true) : ∃ cells, Does Tryz.prog env f [mArg N] [] (vFit L cells) [.tok] := by
  unfold isFit at h
  split at h
  · rename_i len cells e hx
    simp only [Bool.and_eq_true] at h
    have h1 := Nat.eq_of_beq_eq_true h.1
    have h2 := of_decide_eq_true h.2
    subst h1; subst h2
    exact ⟨cells, does_fast names calls_nil hx⟩
  · cases h

end Go.Proofs.YtljekfaoabigkaaGreatDoor.N
