/-
  ValidParts, the tied card: for every input the call returns true, and each argument reads as before. No condition but the row's own: the library's tables hold what the program's text lays in them (the card ties that to the text). The parts of its proof: the executor (the texts Am..), pure values (Ins..), what each function tells (the chapter's own texts).
-/
import Derived.Test.YtgbphddecpjlhaaGreatDoorMU
import Derived.Test.YtgbphddecpjlhaaGreatDoorRows
import Derived.Test.YtgbphddecpjlhaaGreatDoorCards
import Derived.Test.YtgbphddecpjlhaaGreatDoorTie
import Derived.SevenTiedAt
import Derived.Lay

section
namespace Go.Proofs.YtgbphddecpjlhaaGreatDoor.validParts
open Go.ChangeShapes Go.WideShapes Go.ChangeAt Go.RowKit Go.Am

theorem own : ownKnob Tryz.prog.godebug = none := by kernel_rfl

theorem typesOk : ∀ t ∈ Tryz.f5.params.toList, Tryz.prog.readableRec t = true ∧ t < Tryz.prog.types.size := by
  rw [Tryz.params5]
  intro t ht
  have h : (([22, 22, 3, 3] : List TypeId).all fun t => Tryz.prog.readableRec t && decide (t < Tryz.prog.types.size)) = true := by kernel_rfl
  simpa using (List.all_eq_true.1 h) t ht

noncomputable def insFields : Array Field := match Tryz.prog.underlying 52 with
  | some (.struct fs) => fs
  | _ => #[]

theorem insT : InsT Tryz.prog 22 52 3 34 21 50 insFields where
  hL := by kernel_rfl
  hI := by kernel_rfl
  hz := by kernel_rfl
  hf := by kernel_rfl
  h1 := ⟨by kernel_rfl, by kernel_rfl, by kernel_rfl, by kernel_rfl, by kernel_rfl⟩
  ki := by kernel_rfl
  ku := by kernel_rfl
  kn := by kernel_rfl
  kt := by kernel_rfl

theorem walk (w : World) (a0 : List Ins) (hl0 : a0.length ≤ maxLen) (hw0 : wfL a0) (v0 : Value) (hv0 : VA (allPure w) w (aL a0) v0) (a1 : List Ins) (hl1 : a1.length ≤ maxLen) (hw1 : wfL a1) (v1 : Value) (hv1 : VA (allPure w) w (aL a1) v1) (a2 : Int) (_w2 : (Lit.int .i64 a2).wf = true) (a3 : Int) (_w3 : (Lit.int .i64 a3).wf = true) (hL : laidMetH Tryz.prog N.laidTab w) :
    Calls Tryz.prog 5 #[v0, v1, .int .i64 a2, .int .i64 a3] w fun e w' => e = .returned (.bool true) ∧ Below w.heap.size w w' :=
  calls_of_does (E := N.envP) (args := [aL a0, aL a1, sI .i64 a2, sI .i64 a3]) (pure := fun c o => ∃ v, w.cell? ⟨c, o, none⟩ = some v) (N.vp_does a0 a1 a2 a3 hl0 hw0 hl1 hw1) (fun _ _ h => h)
    ⟨hv0, ⟨hv1, ⟨.p _ _ (.sc _), ⟨.p _ _ (.sc _), trivial⟩⟩⟩⟩ ((tabs_globE (N.tabs_hold hL) rfl).mono fun _ _ p => ⟨tabs_there (N.tabs_hold hL) _ _ p, rfl⟩)

set_option maxRecDepth 100000 in
theorem lifted (os : Os) (started : os.Started) (H : Type) (enc : TypeId × Value → H) :
    ReturnsInHanded {} Tryz.checked os 5 .any (fun w args => (Rows.validPartsSpec.pre enc Tryz.prog Tryz.f5 [] false w args ∧ laidMetH Tryz.prog N.laidTab w) ∧ sizedMet enc Tryz.prog Tryz.f5 (OpenSpec.ofChange Rows.validPartsSpec) false w args) (Rows.validPartsSpec.post enc Tryz.prog Tryz.f5 false true false false) := by
  refine returnsInHanded_of_change_and (C := Tryz.checked) (X := fun w _ => laidMetH Tryz.prog N.laidTab w) (fun _ _ _ hh h => h.of_heap hh) own started (by kernel_rfl) Tryz.func5
    (ChangeSpec.witness_shaped (enc := enc) (C := Tryz.checked) (os := os) (X := fun w _ => laidMetH Tryz.prog N.laidTab w) false (World.laidAll Tryz.prog os N.laidTab) #[.slice none 0 0, .slice none 0 0, .int .i64 0, .int .i64 0] 8 (World.laidAll_os _ _ _)
      (World.shaped_of_ZipB (by kernel_rfl) (by kernel_rfl)) (by kernel_rfl) (by kernel_rfl) (by kernel_rfl)
      (by rw [MakeChecks.laidMetH_plain _ _ _ (by kernel_rfl)]; exact laidMet_laidAll _ (by kernel_rfl) (by kernel_rfl))) ?_
  intro W base args ds gs before hval0 hW _ _ hL _
  have hW' := hW
  obtain ⟨p, q, hA0, hV, rfl, hfz, hnd⟩ := hW
  have hA : DataW.TrodAll enc Tryz.prog W 0 (fun _ => true) true Tryz.f5.params.toList args.toList ds p := hA0
  have hval : ∀ (j : Nat) t v, Tryz.f5.params[j]? = some t → args[j]? = some v → Value.okWide Tryz.prog W .any base t v := hval0
  rw [Tryz.params5] at hA hval
  obtain ⟨v0, vs0, d0, ds0, p0, q0, hargs, rfl, rfl, h0, r0⟩ := trodAll_cons hA
  obtain ⟨v1, vs1, d1, ds1, p1, q1, rfl, rfl, rfl, h1, r1⟩ := trodAll_cons r0
  obtain ⟨v2, vs2, d2, ds2, p2, q2, rfl, rfl, rfl, h2, r2⟩ := trodAll_cons r1
  obtain ⟨v3, vs3, d3, ds3, p3, q3, rfl, rfl, rfl, h3, r3⟩ := trodAll_cons r2
  obtain ⟨rfl, rfl, rfl⟩ := trodAll_nil r3
  obtain rfl : args = #[v0, v1, v2, v3] := by cases args; simp_all
  obtain ⟨rfl, rfl⟩ := trodVars_none hV
  obtain ⟨ad0, len0, cap0, rfl⟩ := okWide_slice insT.hL (hval 0 22 v0 rfl rfl)
  obtain ⟨fuel0, h0⟩ := h0
  obtain ⟨a0, ⟨hl0, hw0⟩, hc0, _⟩ := ins_of_trod insT fuel0 _ _ h0
  have hva0 : VA (allPure W) W (aL a0) (.slice ad0 len0 cap0) := .p _ _ hc0.1
  obtain ⟨ad1, len1, cap1, rfl⟩ := okWide_slice insT.hL (hval 1 22 v1 rfl rfl)
  obtain ⟨fuel1, h1⟩ := h1
  obtain ⟨a1, ⟨hl1, hw1⟩, hc1, _⟩ := ins_of_trod insT fuel1 _ _ h1
  have hva1 : VA (allPure W) W (aL a1) (.slice ad1 len1 cap1) := .p _ _ hc1.1
  obtain ⟨a2, rfl, rfl, rfl, w2⟩ := open_int Tryz.underlying3 (hval 2 3 v2 rfl rfl) h2
  obtain ⟨a3, rfl, rfl, rfl, w3⟩ := open_int Tryz.underlying3 (hval 3 3 v3 rfl rfl) h3
  clear hA0 hval0
  simp only [List.append_nil] at hW'
  refine (walk W a0 hl0 hw0 _ hva0 a1 hl1 hw1 _ hva1 a2 w2 a3 w3 hL).mono fun e W' ⟨he, hg⟩ => ?_
  subst he
  exact ⟨_, rfl, law_post (by kernel_rfl) typesOk rfl Tryz.underlying4 rfl hW' rfl hg⟩

theorem over : Rows.validPartsRow.holds Tryz.pinned (OpenSpec.ofChange Rows.validPartsSpec) :=
  OpenClaim.holds_of_wide 5 Tryz.f5 rfl rfl rfl rfl rfl rfl rfl ⟨rfl, rfl, rfl, rfl, rfl⟩ rfl rfl rfl rfl rfl (by kernel_rfl) Tryz.func5 (by kernel_rfl)
    (of_decide_eq_true (by kernel_rfl)) (by unfold Func.isWrapper; first | (rw [if_pos (by decide +kernel)]; kernel_rfl) | (rw [if_neg (by decide +kernel)]; exact ⟨rfl, rfl⟩))
    (fun os started H enc _ => lifted os started H enc)

/-- THE ROW -/
theorem row_holds : Rows.ValidPartsSaid := over

/-- THE STATEMENT: the card -/
theorem proved : Rows.ValidPartsCardSaid :=
  Claim7.holds_tied_plain_at .later [] [.data, .listed, .data, .pinned] true Rows.validPartsCard.stood.harness false
    row_holds (fun _ h => by cases h) (by kernel_rfl) (fun _ h => by cases h) validParts_row_tie rfl ⟨rfl, rfl⟩ (by kernel_rfl) rfl
    (fun f fn hf hfn => by
      obtain rfl : f = 5 := Option.some.inj ((show Tryz.prog.funcNamed Rows.validPartsRow.func = some 5 by kernel_rfl).symm.trans hf) |>.symm
      obtain rfl : fn = Tryz.f5 := (Option.some.inj (Tryz.func5.symm.trans hfn)).symm
      exact ⟨by kernel_rfl, fun j t ht => by
        rw [Tryz.params5] at ht
        have hm : t ∈ ([22, 22, 3, 3] : List TypeId) := by simpa using Array.mem_of_getElem? ht
        have hall : (([22, 22, 3, 3] : List TypeId).all fun u => !Tryz.prog.wantsStandIn u) = true := by kernel_rfl
        exact (show Tryz.prog.wantsStandIn t = false by simpa using List.all_eq_true.1 hall t hm)⟩)
    (by kernel_rfl)
#print axioms proved
end Go.Proofs.YtgbphddecpjlhaaGreatDoor.validParts
end
