/-
  EncodeLong: the choice of a length; all lengths together.
-/
import Derived.Test.YtljekfaoabigkaaGreatDoorEnclE0
import Derived.Test.YtljekfaoabigkaaGreatDoorEnclE1
import Derived.Test.YtljekfaoabigkaaGreatDoorEnclE2
import Derived.Test.YtljekfaoabigkaaGreatDoorEnclE3
import Derived.Test.YtljekfaoabigkaaGreatDoorEnclE4
import Derived.Test.YtljekfaoabigkaaGreatDoorEnclL
namespace Go.Proofs.YtljekfaoabigkaaGreatDoor.N
open Go Go.Am

def cNo (_ : FuncId) (_ : List AV) (_ : Mem) : Option (AV × Mem) := none

/- pick: 47 steps -/
def pickOrc : Orc := orc cNo [] [(6, 0, 1)] []
def pickSc : Sc := .fin
def pickTree (x : Int) : Tree :=
  (.test (decide (x.tmod 100 < 0))
   (.out (Out.ret (AV.p (PV.sc (Value.int IntKind.i64 (IntKind.i64.wrap (x.tmod 100 + 100))))) []))
   (.out (Out.ret (AV.p (PV.sc (Value.int IntKind.i64 (x.tmod 100)))) [])))
theorem pick_tree (x : Int) : growF Tryz.prog env pickOrc 1000000 6 ([AV.p (PV.sc (Value.int IntKind.i64 x)), AV.p (PV.sc (Value.int IntKind.i64 100))]) [] pickSc = pickTree x := by kernel_rfl


theorem pick_does (x : Int) : ∃ k : Nat, k < 100 ∧ Does Tryz.prog env 6 [sI .i64 x, sI .i64 100] [] (sI .i64 (k : Int)) [] := by
  have h1 := Int.lt_tmod_of_pos x (b := 100) (by omega)
  have h2 := Int.tmod_lt_of_pos x (b := 100) (by omega)
  rcases Int.lt_or_le (x.tmod 100) 0 with h | h
  · refine ⟨(x.tmod 100 + 100).toNat, by omega, does_of_tree names (pick_tree x) ?_⟩
    have hw : IntKind.i64.wrap (x.tmod 100 + 100) = ((x.tmod 100 + 100).toNat : Int) := by rw [wrap64_id (by omega) (by omega)]; omega
    simp only [pickTree, Tree.ok, hw]
    exact ⟨fun _ => trivial, fun q => absurd h (of_decide_eq_false q)⟩
  · refine ⟨(x.tmod 100).toNat, by omega, does_of_tree names (pick_tree x) ?_⟩
    have hw : x.tmod 100 = ((x.tmod 100).toNat : Int) := by omega
    simp only [pickTree, Tree.ok]
    refine ⟨fun q => absurd (of_decide_eq_true q) (by omega), fun _ => ?_⟩
    rw [← hw]

theorem el_all : ∀ k, k < 100 → elOk k = true
  | 0, _ => el0
  | 1, _ => el1
  | 2, _ => el2
  | 3, _ => el3
  | 4, _ => el4
  | 5, _ => el5
  | 6, _ => el6
  | 7, _ => el7
  | 8, _ => el8
  | 9, _ => el9
  | 10, _ => el10
  | 11, _ => el11
  | 12, _ => el12
  | 13, _ => el13
  | 14, _ => el14
  | 15, _ => el15
  | 16, _ => el16
  | 17, _ => el17
  | 18, _ => el18
  | 19, _ => el19
  | 20, _ => el20
  | 21, _ => el21
  | 22, _ => el22
  | 23, _ => el23
  | 24, _ => el24
  | 25, _ => el25
  | 26, _ => el26
  | 27, _ => el27
  | 28, _ => el28
  | 29, _ => el29
  | 30, _ => el30
  | 31, _ => el31
  | 32, _ => el32
  | 33, _ => el33
  | 34, _ => el34
  | 35, _ => el35
  | 36, _ => el36
  | 37, _ => el37
  | 38, _ => el38
  | 39, _ => el39
  | 40, _ => el40
  | 41, _ => el41
  | 42, _ => el42
  | 43, _ => el43
  | 44, _ => el44
  | 45, _ => el45
  | 46, _ => el46
  | 47, _ => el47
  | 48, _ => el48
  | 49, _ => el49
  | 50, _ => el50
  | 51, _ => el51
  | 52, _ => el52
  | 53, _ => el53
  | 54, _ => el54
  | 55, _ => el55
  | 56, _ => el56
  | 57, _ => el57
  | 58, _ => el58
  | 59, _ => el59
  | 60, _ => el60
  | 61, _ => el61
  | 62, _ => el62
  | 63, _ => el63
  | 64, _ => el64
  | 65, _ => el65
  | 66, _ => el66
  | 67, _ => el67
  | 68, _ => el68
  | 69, _ => el69
  | 70, _ => el70
  | 71, _ => el71
  | 72, _ => el72
  | 73, _ => el73
  | 74, _ => el74
  | 75, _ => el75
  | 76, _ => el76
  | 77, _ => el77
  | 78, _ => el78
  | 79, _ => el79
  | 80, _ => el80
  | 81, _ => el81
  | 82, _ => el82
  | 83, _ => el83
  | 84, _ => el84
  | 85, _ => el85
  | 86, _ => el86
  | 87, _ => el87
  | 88, _ => el88
  | 89, _ => el89
  | 90, _ => el90
  | 91, _ => el91
  | 92, _ => el92
  | 93, _ => el93
  | 94, _ => el94
  | 95, _ => el95
  | 96, _ => el96
  | 97, _ => el97
  | 98, _ => el98
  | 99, _ => el99
  | n + 100, h => absurd h (by omega)

theorem long_all (x : Int) : Does Tryz.prog env 3 [sI .i64 x] [] (sB true) [] := by
  obtain ⟨k, hk, hp⟩ := pick_does x
  have he := el_all k hk
  unfold elOk at he
  rcases Nat.lt_or_ge k 18 with h | h
  · have hb : Nat.blt k 18 = true := by simpa [Nat.blt_eq] using h
    rw [hb] at he
    simp only [cond_true, Bool.and_eq_true] at he
    exact does_of_tree names (ll_all k h x) ⟨hp, long_does he.1, long_does he.2, Awdoes, rfl⟩
  · have hb : Nat.blt k 18 = false := by
      rw [Bool.eq_false_iff]
      intro q
      have : k < 18 := by simpa [Nat.blt_eq] using q
      omega
    rw [hb] at he
    simp only [cond_false, Bool.and_eq_true] at he
    obtain ⟨c7, d7⟩ := fit_does he.1
    obtain ⟨c8, d8⟩ := fit_does he.2
    have hl := lf_all (k - 18) (by omega)
    rw [show k - 18 + 18 = k by omega] at hl
    exact does_of_tree names (hl x c7 c8) ⟨hp, d7, d8, Awdoes, rfl⟩

end Go.Proofs.YtljekfaoabigkaaGreatDoor.N
