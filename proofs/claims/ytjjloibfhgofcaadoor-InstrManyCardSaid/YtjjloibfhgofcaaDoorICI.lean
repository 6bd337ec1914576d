/-
  The document's check of instructions: what its parts tell, of any instructions.
-/
import Derived.Test.YtjjloibfhgofcaaDoorICH
namespace Go.Proofs.YtjjloibfhgofcaaDoor.N
open Go Go.Am

/- naL: 262 steps -/
noncomputable def naLOrc : Orc := orcL noCall noLed [] [(79, 3, 3), (79, 6, 3), (87, 0, 0), (87, 0, 1), (87, 0, 2), (87, 0, 3), (87, 0, 4), (87, 0, 5), (87, 0, 6), (87, 0, 7), (87, 0, 8), (87, 0, 9), (87, 0, 10), (87, 0, 11), (87, 0, 12), (95, 0, 0), (95, 0, 1), (95, 0, 2), (95, 0, 3), (95, 0, 4), (95, 0, 5), (95, 0, 6), (95, 0, 7), (95, 0, 8), (95, 0, 9), (95, 0, 10), (95, 0, 11), (95, 0, 12), (95, 0, 13), (95, 0, 14), (95, 0, 15)] []
def naLSc : Sc := (.no (.no (.no (.no (.no (.no (.no (.no (.no (.no (.no (.no (.no (.no (.no (.no (.no (.no (.no (.no (.no (.no (.no (.no (.no (.no (.no (.no (.no (.no (.no .fin)))))))))))))))))))))))))))))))
noncomputable def naLTree (op : Int) : Tree :=
  (.must (!(decide (op ≥ 69)))
   (.must (!(decide (op ≥ 103)))
    (.must (!(op == 0))
     (.must (!(op == 1))
      (.must (!(op == 2))
       (.must (!(op == 3))
        (.must (!(op == 4))
         (.must (!(op == 12))
          (.must (!(op == 13))
           (.must (!(op == 14))
            (.must (!(op == 15))
             (.must (!(op == 16))
              (.must (!(op == 17))
               (.must (!(op == 26))
                (.must (!(op == 27))
                 (.must (!(op == 32))
                  (.must (!(op == 33))
                   (.must (!(op == 34))
                    (.must (!(op == 35))
                     (.must (!(op == 36))
                      (.must (!(op == 40))
                       (.must (!(op == 44))
                        (.must (!(op == 45))
                         (.must (!(op == 46))
                          (.must (!(op == 47))
                           (.must (!(op == 54))
                            (.must (!(op == 58))
                             (.must (!(op == 59))
                              (.must (!(op == 63))
                               (.must (!(op == 64))
                                (.must (!(op == 65))
                                 (.out (Out.ret (AV.p (PV.sc (Value.string (ByteArray.mk #[])))) [])))))))))))))))))))))))))))))))))
theorem naL_tree (op : Int) : growF Tryd.prog env naLOrc 1000000 79 ([sI IntKind.i64 op]) ([]) naLSc = naLTree op := by kernel_rfl

/- naH: 262 steps -/
noncomputable def naHOrc : Orc := orcL noCall noLed [] [(79, 3, 3), (79, 0, 0), (79, 6, 3), (79, 0, 1), (87, 0, 0), (87, 0, 1), (87, 0, 2), (87, 0, 3), (87, 0, 4), (87, 0, 5), (87, 0, 6), (87, 0, 7), (87, 0, 8), (87, 0, 9), (87, 0, 10), (87, 0, 11), (87, 0, 12), (95, 0, 0), (95, 0, 1), (95, 0, 2), (95, 0, 3), (95, 0, 4), (95, 0, 5), (95, 0, 6), (95, 0, 7), (95, 0, 8), (95, 0, 9), (95, 0, 10), (95, 0, 11), (95, 0, 12), (95, 0, 13), (95, 0, 14), (95, 0, 15)] []
def naHSc : Sc := (.yes (.no (.yes (.no (.no (.no (.no (.no (.no (.no (.no (.no (.no (.no (.no (.no (.no (.no (.no (.no (.no (.no (.no (.no (.no (.no (.no (.no (.no (.no (.no (.no (.no .fin)))))))))))))))))))))))))))))))))
noncomputable def naHTree (op : Int) : Tree :=
  (.must (decide (op ≥ 69))
   (.must (!(decide (op ≤ 79)))
    (.must (decide (op ≥ 103))
     (.must (!(decide (op ≤ 120)))
      (.must (!(op == 0))
       (.must (!(op == 1))
        (.must (!(op == 2))
         (.must (!(op == 3))
          (.must (!(op == 4))
           (.must (!(op == 12))
            (.must (!(op == 13))
             (.must (!(op == 14))
              (.must (!(op == 15))
               (.must (!(op == 16))
                (.must (!(op == 17))
                 (.must (!(op == 26))
                  (.must (!(op == 27))
                   (.must (!(op == 32))
                    (.must (!(op == 33))
                     (.must (!(op == 34))
                      (.must (!(op == 35))
                       (.must (!(op == 36))
                        (.must (!(op == 40))
                         (.must (!(op == 44))
                          (.must (!(op == 45))
                           (.must (!(op == 46))
                            (.must (!(op == 47))
                             (.must (!(op == 54))
                              (.must (!(op == 58))
                               (.must (!(op == 59))
                                (.must (!(op == 63))
                                 (.must (!(op == 64))
                                  (.must (!(op == 65))
                                   (.out (Out.ret (AV.p (PV.sc (Value.string (ByteArray.mk #[])))) [])))))))))))))))))))))))))))))))))))
theorem naH_tree (op : Int) : growF Tryd.prog env naHOrc 1000000 79 ([sI IntKind.i64 op]) ([]) naHSc = naHTree op := by kernel_rfl


/-- The document's name of an operation: each number by itself. -/
noncomputable def naRun (n : Nat) : Bool :=
  match execXF Tryd.prog env [] 100000 79 [sI .i64 n] [] with
  | some (.ret v m) => eqAV v (.p (.sc (.string (nmL.getD n ⟨#[]⟩)))) && eqMem m []
  | _ => false

theorem naRun0 : (List.range' 0 32).all naRun = true := by kernel_rfl
theorem naRun1 : (List.range' 32 32).all naRun = true := by kernel_rfl
theorem naRun2 : (List.range' 64 32).all naRun = true := by kernel_rfl
theorem naRun3 : (List.range' 96 32).all naRun = true := by kernel_rfl
theorem naRun4 : (List.range' 128 32).all naRun = true := by kernel_rfl
theorem naRun5 : (List.range' 160 32).all naRun = true := by kernel_rfl
theorem naRun6 : (List.range' 192 32).all naRun = true := by kernel_rfl
theorem naRun7 : (List.range' 224 32).all naRun = true := by kernel_rfl

theorem naRun_all {n : Nat} (h : n < 256) : naRun n = true := by
  have get : ∀ a, (List.range' a 32).all naRun = true → a ≤ n → n < a + 32 → naRun n = true := fun a ha h1 h2 => List.all_eq_true.1 ha n (List.mem_range'_1.2 ⟨h1, h2⟩)
  rcases Nat.lt_or_ge n 32 with q | q
  · exact get 0 naRun0 (by omega) (by omega)
  rcases Nat.lt_or_ge n 64 with q | q
  · exact get 32 naRun1 (by omega) (by omega)
  rcases Nat.lt_or_ge n 96 with q | q
  · exact get 64 naRun2 (by omega) (by omega)
  rcases Nat.lt_or_ge n 128 with q | q
  · exact get 96 naRun3 (by omega) (by omega)
  rcases Nat.lt_or_ge n 160 with q | q
  · exact get 128 naRun4 (by omega) (by omega)
  rcases Nat.lt_or_ge n 192 with q | q
  · exact get 160 naRun5 (by omega) (by omega)
  rcases Nat.lt_or_ge n 224 with q | q
  · exact get 192 naRun6 (by omega) (by omega)
  · exact get 224 naRun7 (by omega) (by omega)

theorem nameR_does (op : Int) : Does Tryd.prog env 79 [sI .i64 op] [] (.p (.sc (.string (nm op)))) [] := by
  by_cases h0 : op < 0
  · refine does_of_tree names (naL_tree op) ?_
    rw [nm, if_pos (.inl h0)]
    simp only [naLTree, Tree.ok, Bool.not_eq_true', beq_eq_false_iff_ne, decide_eq_false_iff_not]
    repeat' first | exact True.intro | exact rfl | apply And.intro
    all_goals omega
  · by_cases h1 : 256 ≤ op
    · refine does_of_tree names (naH_tree op) ?_
      rw [nm, if_pos (.inr h1)]
      simp only [naHTree, Tree.ok, Bool.not_eq_true', beq_eq_false_iff_ne, decide_eq_false_iff_not, decide_eq_true_eq]
      repeat' first | exact True.intro | exact rfl | apply And.intro
      all_goals omega
    · obtain ⟨n, rfl⟩ := Int.eq_ofNat_of_zero_le (by omega : 0 ≤ op)
      have hr := naRun_all (n := n) (by omega)
      unfold naRun at hr
      split at hr
      · rename_i v m hx
        rw [Bool.and_eq_true] at hr
        rw [eqAV_eq hr.1, eqMem_eq hr.2] at hx
        rw [nm, if_neg (by omega)]
        exact does_fast names calls_nil hx
      · cases hr

/-- May an instruction be? -/
def mayI : Ins → Bool
  | .mk op r a b nn tg ll le => mayF ((nm op).data.toList == (ByteArray.mk #[]).data.toList) (isLi op) (decide (op = 4)) (isSt op || isWh op || decide (op = 14)) (isSt op) (decide (op = 65)) (decide (op = 14)) (decide (r < 0)) (decide (r > 1)) (r != 0) (decide ((ll.length : Int) > 0)) (decide ((le.length : Int) > 0)) (a == 0) (b == 0) (nn == 0) ((tg.length : Int) == 0)

theorem mayI_does (x : Ins) : Does Tryd.prog env 26 [aggX x] [] (sB (mayI x)) [] := by
  obtain ⟨op, r, a, b, nn, tg, ll, le⟩ := x
  exact may_of op r a b nn tg ll le (nm op) _ _ _ _ _ _ (uses_does op) (name_does op)

theorem same_form : ∀ e0 e1 e2 e3 e4 e5 li n4 e6 n14 e8 n65 e7 st a0 wh : Bool, (e1 = true → e3 = false) → mayF e0 li (!n4) (st || wh || !n14) st (!n65) (!n14) e1 e2 (e1 || e3) e4 e5 a0 (!e7) (!e8) (!e6) = rigF e0 e1 e2 e3 e4 e5 li n4 e6 n14 e8 n65 e7 st a0 wh := by
  intro e0 e1 e2 e3 e4 e5 li n4 e6 n14 e8 n65 e7 st a0 wh
  cases e0
  case true => intro _; rfl
  cases e1
  case true => intro _; rfl
  cases e2
  case true => intro _; rfl
  intro _
  revert e3 e4 e5 li n4 e6 n14 e8 n65 e7 st a0 wh
  decide +kernel

theorem rightI_does (x : Ins) : Does Tryd.prog env 64 [aggX x] [] (sB (mayI x)) [] := by
  obtain ⟨op, r, a, b, nn, tg, ll, le⟩ := x
  have h := rig_of op r a b nn tg ll le (nm op) _ _ _ _ (alignR_does op) (nameR_does op) (lists_does op) (which_does op)
  rw [← same_form] at h
  · have e1 : (!(op != 4)) = decide (op = 4) := by rw [Bool.eq_iff_iff]; simp
    have e2 : (!(op != 14)) = decide (op = 14) := by rw [Bool.eq_iff_iff]; simp
    have e3 : (!(op != 65)) = decide (op = 65) := by rw [Bool.eq_iff_iff]; simp
    have e4 : (!(b != 0)) = (b == 0) := by simp [bne]
    have e5 : (!(nn != 0)) = (nn == 0) := by simp [bne]
    have e6 : (!decide ((tg.length : Int) > 0)) = ((tg.length : Int) == 0) := by rw [Bool.eq_iff_iff, Bool.not_eq_true', decide_eq_false_iff_not, beq_iff_eq]; omega
    have e7 : (decide (r < 0) || decide (r > 0)) = (r != 0) := by rw [Bool.eq_iff_iff, Bool.or_eq_true, decide_eq_true_eq, decide_eq_true_eq, bne_iff_ne]; omega
    rw [e1, e2, e3, e4, e5, e6, e7] at h
    exact h
  · intro q; rw [decide_eq_true_eq] at q; rw [decide_eq_false_iff_not]; omega

end Go.Proofs.YtjjloibfhgofcaaDoor.N
