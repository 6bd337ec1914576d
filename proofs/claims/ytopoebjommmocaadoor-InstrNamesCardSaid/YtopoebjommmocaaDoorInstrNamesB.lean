/-
  InstrNames: each number from 0 to 127, by itself.
-/
import Derived.Test.YtopoebjommmocaaDoorInstrNamesA
namespace Go.Proofs.YtopoebjommmocaaDoor.N
open Go Go.Am

def nmC : Call' := ⟨13, [], [], sB true, []⟩
def nmK : List Call' := nmC :: InstrKnownK6
theorem nmKok : Calls' Tryd.prog env nmK := calls_cons awake InstrKnownK6ok

/-- The call, run, is true. -/
noncomputable def nm (n : Nat) : Bool :=
  match execF Tryd.prog env nmK 10000000 3 [sI .i64 n] [] with
  | some (.ret v m) => eqAV v (sB true) && eqMem m []
  | none => false

theorem nm0 : (List.range' 0 4).all nm = true := by kernel_rfl
theorem nm1 : (List.range' 4 4).all nm = true := by kernel_rfl
theorem nm2 : (List.range' 8 4).all nm = true := by kernel_rfl
theorem nm3 : (List.range' 12 4).all nm = true := by kernel_rfl
theorem nm4 : (List.range' 16 4).all nm = true := by kernel_rfl
theorem nm5 : (List.range' 20 4).all nm = true := by kernel_rfl
theorem nm6 : (List.range' 24 4).all nm = true := by kernel_rfl
theorem nm7 : (List.range' 28 4).all nm = true := by kernel_rfl
theorem nm8 : (List.range' 32 4).all nm = true := by kernel_rfl
theorem nm9 : (List.range' 36 4).all nm = true := by kernel_rfl
theorem nm10 : (List.range' 40 4).all nm = true := by kernel_rfl
theorem nm11 : (List.range' 44 4).all nm = true := by kernel_rfl
theorem nm12 : (List.range' 48 4).all nm = true := by kernel_rfl
theorem nm13 : (List.range' 52 4).all nm = true := by kernel_rfl
theorem nm14 : (List.range' 56 4).all nm = true := by kernel_rfl
theorem nm15 : (List.range' 60 4).all nm = true := by kernel_rfl
theorem nm16 : (List.range' 64 4).all nm = true := by kernel_rfl
theorem nm17 : (List.range' 68 4).all nm = true := by kernel_rfl
theorem nm18 : (List.range' 72 4).all nm = true := by kernel_rfl
theorem nm19 : (List.range' 76 4).all nm = true := by kernel_rfl
theorem nm20 : (List.range' 80 4).all nm = true := by kernel_rfl
theorem nm21 : (List.range' 84 4).all nm = true := by kernel_rfl
theorem nm22 : (List.range' 88 4).all nm = true := by kernel_rfl
theorem nm23 : (List.range' 92 4).all nm = true := by kernel_rfl
theorem nm24 : (List.range' 96 4).all nm = true := by kernel_rfl
theorem nm25 : (List.range' 100 4).all nm = true := by kernel_rfl
theorem nm26 : (List.range' 104 4).all nm = true := by kernel_rfl
theorem nm27 : (List.range' 108 4).all nm = true := by kernel_rfl
theorem nm28 : (List.range' 112 4).all nm = true := by kernel_rfl
theorem nm29 : (List.range' 116 4).all nm = true := by kernel_rfl
theorem nm30 : (List.range' 120 4).all nm = true := by kernel_rfl
theorem nm31 : (List.range' 124 4).all nm = true := by kernel_rfl

end Go.Proofs.YtopoebjommmocaaDoor.N
