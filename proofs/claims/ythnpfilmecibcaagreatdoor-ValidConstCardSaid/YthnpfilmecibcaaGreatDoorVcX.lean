/-
  ValidConst: what its functions tell, of any instructions.
-/
import Derived.Test.YthnpfilmecibcaaGreatDoorVcV
import Derived.Test.YthnpfilmecibcaaGreatDoorVcW
namespace Go.Proofs.YthnpfilmecibcaaGreatDoor.N
open Go Go.Am

theorem name_does : Does Tryz.prog env 26 [sI .i64 65] [] s32c [] := does_fast names calls_nil (n := 10000000) (by kernel_rfl)
theorem kC_ok : Calls' Tryz.prog env kC :=
  calls_cons (does_fast names calls_nil (n := 10000000) (by kernel_rfl)) (calls_cons (does_fast names calls_nil (n := 10000000) (by kernel_rfl)) (calls_cons (does_fast names calls_nil (n := 10000000) (by kernel_rfl)) calls_nil))
theorem ledK_right : Right Tryz.prog env ledK := fun _ _ _ _ _ h => knownAt_does kC_ok h

/-- May an instruction be that begins a word? -/
def okX (r a b : Int) (tags : List Int) (ll le : List Ins) : Bool := decide (r = 0 ∧ a = 0 ∧ b = 0 ∧ tags.length = 0 ∧ ll.length = 0 ∧ le.length = 0)

theorem okX_no {r a b : Int} {tags : List Int} {ll le : List Ins} (h : ¬ (r = 0 ∧ a = 0 ∧ b = 0 ∧ tags.length = 0 ∧ ll.length = 0 ∧ le.length = 0)) : Out.ret (sB false) [] = Out.ret (sB (okX r a b tags ll le)) [] := by
  rw [okX, decide_eq_false h]

theorem okX_yes {r a b : Int} {tags : List Int} {ll le : List Ins} (h : r = 0 ∧ a = 0 ∧ b = 0 ∧ tags.length = 0 ∧ ll.length = 0 ∧ le.length = 0) : Out.ret (sB true) [] = Out.ret (sB (okX r a b tags ll le)) [] := by
  rw [okX, decide_eq_true h]

theorem may_does (r a b n : Int) (tags : List Int) (ll le : List Ins) : Does Tryz.prog env 16 [aggX r a b n tags ll le] [] (sB (okX r a b tags ll le)) [] := by
  refine does_of_tree names right_noLed (may_tree r a b n tags ll le) ?_
  simp only [mayTree, Tree.ok]
  refine ⟨name_does, fun h => okX_no ?_, fun _ => ⟨fun h => ⟨h, okX_no ?_⟩, fun _ => ⟨fun h => okX_no ?_, fun h1 => ⟨fun h => ⟨h, okX_no ?_⟩, fun h2 => ⟨fun h => okX_no ?_, fun h3 => ⟨fun h4 => ⟨fun h5 => ?_, fun h => okX_no ?_⟩, fun h => okX_no ?_⟩⟩⟩⟩⟩⟩
  case refine_6 =>
    simp only [bne_eq_false_iff_eq, decide_eq_false_iff_not, beq_iff_eq] at h1 h2 h3 h4 h5
    by_cases ht : tags.length = 0
    · rw [show (((tags.length : Nat) : Int) == 0) = true by simpa using ht]
      exact okX_yes (by omega)
    · rw [show (((tags.length : Nat) : Int) == 0) = false by simpa using ht]
      exact okX_no (by omega)
  all_goals
    simp only [bne_iff_ne, ne_eq, decide_eq_true_eq, beq_eq_false_iff_ne] at h
    omega

theorem rig_does (r a b n : Int) (tags : List Int) (ll le : List Ins) : Does Tryz.prog env 27 [aggX r a b n tags ll le] [] (sB (okX r a b tags ll le)) [] := by
  refine does_of_tree names right_noLed (rig_tree r a b n tags ll le) ?_
  simp only [rigTree, Tree.ok]
  refine ⟨fun h => okX_no ?_, fun h0 => ⟨fun h => okX_no ?_, fun _ => ⟨fun h => okX_no ?_, fun h1 => ⟨fun h => okX_no ?_, fun h2 => ⟨fun h => okX_no ?_, fun h3 => ⟨fun h => okX_no ?_, fun h4 => ⟨fun _ => ⟨fun h => okX_no ?_, fun h5 => ⟨fun h6 => okX_yes ?_, fun h => okX_no ?_⟩⟩, fun _ => ⟨fun h => okX_no ?_, fun h5 => ⟨fun h6 => okX_yes ?_, fun h => okX_no ?_⟩⟩⟩⟩⟩⟩⟩⟩⟩
  case refine_8 =>
    simp only [bne_eq_false_iff_eq, decide_eq_false_iff_not, beq_iff_eq] at h0 h1 h2 h3 h4 h5 h6
    omega
  case refine_11 =>
    simp only [bne_eq_false_iff_eq, decide_eq_false_iff_not, beq_iff_eq] at h0 h1 h2 h3 h4 h5 h6
    omega
  all_goals
    simp only [bne_iff_ne, ne_eq, decide_eq_true_eq, beq_eq_false_iff_ne] at h
    omega

/-- Of one instruction that begins a word both checks tell the same. -/
theorem check_does (r a b n : Int) (tags : List Int) (ll le : List Ins) : ∃ ck, Does Tryz.prog env 9 [aL [.mk 65 r a b n tags ll le]] [] (sI .i64 ck) [] ∧ Does Tryz.prog env 10 [aL [.mk 65 r a b n tags ll le]] [] (sI .i64 ck) [] := by
  have hm := may_does r a b n tags ll le
  have hr := rig_does r a b n tags ll le
  by_cases h : okX r a b tags ll le = true
  · rw [h] at hm hr
    have h := of_decide_eq_true h
    obtain ⟨rfl, rfl, rfl, h1, h2, h3⟩ := h
    obtain rfl := List.eq_nil_of_length_eq_zero h1
    obtain rfl := List.eq_nil_of_length_eq_zero h2
    obtain rfl := List.eq_nil_of_length_eq_zero h3
    exact ⟨0, does_of_tree names right_noLed (ckt_tree n) ⟨hm, rfl⟩, does_of_tree names ledK_right (rkt_tree n) ⟨hr, rfl⟩⟩
  · rw [Bool.not_eq_true] at h
    rw [h] at hm hr
    exact ⟨2, does_of_tree names right_noLed (ckf_tree r a b n tags ll le) ⟨hm, rfl⟩, does_of_tree names right_noLed (rkf_tree r a b n tags ll le) ⟨hr, rfl⟩⟩

/-- Both tell the same number, or the same error. -/
theorem const_does : ∀ l : List Ins, ∃ u e, Does Tryz.prog env 5 [aL l] [] (.tup [sI .u32 u, sI .i64 e]) [] ∧ Does Tryz.prog env 7 [aL l] [] (.tup [sI .u32 u, sI .i64 e]) []
  | [] => ⟨0, 210, does_of_tree names right_noLed (vcn_tree [] 0) (by simp [vcnTree, Tree.ok]), does_of_tree names right_noLed (rcn_tree [] 0) (by simp [rcnTree, Tree.ok])⟩
  | x :: y :: l => ⟨0, 210, does_of_tree names right_noLed (vcn_tree (x :: y :: l) 0) ⟨fun _ => rfl, fun h => by simp at h; omega⟩, does_of_tree names right_noLed (rcn_tree (x :: y :: l) 0) ⟨fun _ => rfl, fun h => by simp at h; omega⟩⟩
  | [.mk op r a b n tags ll le] => by
    by_cases ho : op = 65
    · subst ho
      obtain ⟨ck, h1, h2⟩ := check_does r a b n tags ll le
      by_cases hc : ck = 0
      · subst hc
        exact ⟨IntKind.u32.wrap n, 0, does_of_tree names right_noLed (vcn_tree _ 0) ⟨fun h => by simp at h, fun _ => ⟨rfl, rfl, fun h => by simp [encL, encI, pvInt] at h, fun _ => ⟨h1, fun h => by simp at h, fun _ => ⟨rfl, rfl, rfl⟩⟩⟩⟩,
          does_of_tree names right_noLed (rcn_tree _ 0) ⟨fun h => by simp at h, fun _ => ⟨rfl, rfl, fun h => by simp [encL, encI, pvInt] at h, fun _ => ⟨h2, fun h => by simp at h, fun _ => ⟨rfl, rfl, rfl⟩⟩⟩⟩⟩
      · exact ⟨0, 210, does_of_tree names right_noLed (vcn_tree _ ck) ⟨fun h => by simp at h, fun _ => ⟨rfl, rfl, fun h => by simp [encL, encI, pvInt] at h, fun _ => ⟨h1, fun _ => rfl, fun h => by simp [hc] at h⟩⟩⟩,
          does_of_tree names right_noLed (rcn_tree _ ck) ⟨fun h => by simp at h, fun _ => ⟨rfl, rfl, fun h => by simp [encL, encI, pvInt] at h, fun _ => ⟨h2, fun _ => rfl, fun h => by simp [hc] at h⟩⟩⟩⟩
    · exact ⟨0, 210, does_of_tree names right_noLed (vcn_tree _ 0) ⟨fun h => by simp at h, fun _ => ⟨rfl, rfl, fun _ => rfl, fun h => by simp [encL, encI, pvInt, ho] at h⟩⟩,
        does_of_tree names right_noLed (rcn_tree _ 0) ⟨fun h => by simp at h, fun _ => ⟨rfl, rfl, fun _ => rfl, fun h => by simp [encL, encI, pvInt, ho] at h⟩⟩⟩

theorem law_does (l : List Ins) (hl : l.length ≤ maxLen) (hw : wfL l) : Does Tryz.prog env 3 [aL l] [] (sB true) [] := by
  obtain ⟨u, e, h1, h2⟩ := const_does l
  refine does_of_tree names right_noLed (law_tree l (insF l 2000 0) u e) ?_
  have hi := instrs_does (cntL l) l 2000 (Nat.le_refl _) hl hw (by omega) (by omega)
  simp only [lawTree, Tree.ok]
  refine ⟨hi, fun _ => trivial, fun h => ⟨copy_does (cntL l) l (Nat.le_refl _) ?_, h1, h2, fun _ => ⟨fun _ => ⟨Awdoes, trivial⟩, fun h => by simp at h⟩, fun h => by simp at h⟩⟩
  have h : insF l 2000 0 ≤ 2000 := by simpa using h
  have := insF_cnt l 2000 0 (by omega) (by omega) h
  omega

end Go.Proofs.YthnpfilmecibcaaGreatDoor.N
