/-
  InstrNames: each number from 128 to 255, by itself; all numbers.
-/
import Derived.Test.YtopoebjommmocaaDoorInstrNamesB
namespace Go.Proofs.YtopoebjommmocaaDoor.N
open Go Go.Am

theorem nm32 : (List.range' 128 4).all nm = true := by kernel_rfl
theorem nm33 : (List.range' 132 4).all nm = true := by kernel_rfl
theorem nm34 : (List.range' 136 4).all nm = true := by kernel_rfl
theorem nm35 : (List.range' 140 4).all nm = true := by kernel_rfl
theorem nm36 : (List.range' 144 4).all nm = true := by kernel_rfl
theorem nm37 : (List.range' 148 4).all nm = true := by kernel_rfl
theorem nm38 : (List.range' 152 4).all nm = true := by kernel_rfl
theorem nm39 : (List.range' 156 4).all nm = true := by kernel_rfl
theorem nm40 : (List.range' 160 4).all nm = true := by kernel_rfl
theorem nm41 : (List.range' 164 4).all nm = true := by kernel_rfl
theorem nm42 : (List.range' 168 4).all nm = true := by kernel_rfl
theorem nm43 : (List.range' 172 4).all nm = true := by kernel_rfl
theorem nm44 : (List.range' 176 4).all nm = true := by kernel_rfl
theorem nm45 : (List.range' 180 4).all nm = true := by kernel_rfl
theorem nm46 : (List.range' 184 4).all nm = true := by kernel_rfl
theorem nm47 : (List.range' 188 4).all nm = true := by kernel_rfl
theorem nm48 : (List.range' 192 4).all nm = true := by kernel_rfl
theorem nm49 : (List.range' 196 4).all nm = true := by kernel_rfl
theorem nm50 : (List.range' 200 4).all nm = true := by kernel_rfl
theorem nm51 : (List.range' 204 4).all nm = true := by kernel_rfl
theorem nm52 : (List.range' 208 4).all nm = true := by kernel_rfl
theorem nm53 : (List.range' 212 4).all nm = true := by kernel_rfl
theorem nm54 : (List.range' 216 4).all nm = true := by kernel_rfl
theorem nm55 : (List.range' 220 4).all nm = true := by kernel_rfl
theorem nm56 : (List.range' 224 4).all nm = true := by kernel_rfl
theorem nm57 : (List.range' 228 4).all nm = true := by kernel_rfl
theorem nm58 : (List.range' 232 4).all nm = true := by kernel_rfl
theorem nm59 : (List.range' 236 4).all nm = true := by kernel_rfl
theorem nm60 : (List.range' 240 4).all nm = true := by kernel_rfl
theorem nm61 : (List.range' 244 4).all nm = true := by kernel_rfl
theorem nm62 : (List.range' 248 4).all nm = true := by kernel_rfl
theorem nm63 : (List.range' 252 4).all nm = true := by kernel_rfl

theorem nm_chunk : ∀ c, c < 64 → (List.range' (4 * c) 4).all nm = true
  | 0, _ => nm0
  | 1, _ => nm1
  | 2, _ => nm2
  | 3, _ => nm3
  | 4, _ => nm4
  | 5, _ => nm5
  | 6, _ => nm6
  | 7, _ => nm7
  | 8, _ => nm8
  | 9, _ => nm9
  | 10, _ => nm10
  | 11, _ => nm11
  | 12, _ => nm12
  | 13, _ => nm13
  | 14, _ => nm14
  | 15, _ => nm15
  | 16, _ => nm16
  | 17, _ => nm17
  | 18, _ => nm18
  | 19, _ => nm19
  | 20, _ => nm20
  | 21, _ => nm21
  | 22, _ => nm22
  | 23, _ => nm23
  | 24, _ => nm24
  | 25, _ => nm25
  | 26, _ => nm26
  | 27, _ => nm27
  | 28, _ => nm28
  | 29, _ => nm29
  | 30, _ => nm30
  | 31, _ => nm31
  | 32, _ => nm32
  | 33, _ => nm33
  | 34, _ => nm34
  | 35, _ => nm35
  | 36, _ => nm36
  | 37, _ => nm37
  | 38, _ => nm38
  | 39, _ => nm39
  | 40, _ => nm40
  | 41, _ => nm41
  | 42, _ => nm42
  | 43, _ => nm43
  | 44, _ => nm44
  | 45, _ => nm45
  | 46, _ => nm46
  | 47, _ => nm47
  | 48, _ => nm48
  | 49, _ => nm49
  | 50, _ => nm50
  | 51, _ => nm51
  | 52, _ => nm52
  | 53, _ => nm53
  | 54, _ => nm54
  | 55, _ => nm55
  | 56, _ => nm56
  | 57, _ => nm57
  | 58, _ => nm58
  | 59, _ => nm59
  | 60, _ => nm60
  | 61, _ => nm61
  | 62, _ => nm62
  | 63, _ => nm63
  | n + 64, h => absurd h (by omega)

theorem nm_all {n : Nat} (h : n < 256) : nm n = true := by
  have := nm_chunk (n / 4) (by omega)
  exact List.all_eq_true.1 this n (List.mem_range'_1.2 (by omega))

theorem nm_does {n : Nat} (h : nm n = true) : Does Tryd.prog env 3 [.p (.sc (.int .i64 (n : Int)))] [] (sB true) [] := by
  unfold nm at h
  split at h
  · rename_i v m hx
    simp only [Bool.and_eq_true] at h
    obtain ⟨h1, h2⟩ := h
    have h1 := eqAV_eq h1
    have h2 := eqMem_eq h2
    subst h1; subst h2
    exact does_of_known names nmKok hx
  · cases h

theorem names_does (op : Int) : Does Tryd.prog env 3 [.p (.sc (.int .i64 op))] [] (sB true) [] := by
  rcases Int.lt_or_le op 0 with h0 | h0
  · exact namLow_does h0
  rcases Int.lt_or_le 255 op with h1 | h1
  · exact namHigh_does h1
  obtain ⟨n, rfl⟩ := Int.eq_ofNat_of_zero_le h0
  exact nm_does (nm_all (by omega))

end Go.Proofs.YtopoebjommmocaaDoor.N
