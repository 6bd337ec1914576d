/-
  InstrParts, the tied card: for every input the call returns true, and each argument reads as before. No condition but the row's own: the library's tables hold what the program's text lays in them (the card ties that to the text). The parts of its proof: the executor (the texts Am..), pure values (Ins..), what each function tells (the chapter's own texts).
-/
import Derived.Test.YtjjloibfhgofcaaDoorMS
import Derived.Test.YtjjloibfhgofcaaDoorRows
import Derived.Test.YtjjloibfhgofcaaDoorCards
import Derived.Test.YtjjloibfhgofcaaDoorTie
import Derived.SevenTiedAt
import Derived.Lay

section
namespace Go.Proofs.YtjjloibfhgofcaaDoor.instrParts
open Go.ChangeShapes Go.WideShapes Go.ChangeAt Go.RowKit Go.Am

theorem own : ownKnob Tryd.prog.godebug = none := by kernel_rfl

theorem typesOk : ∀ t ∈ Tryd.f5.params.toList, Tryd.prog.readableRec t = true ∧ t < Tryd.prog.types.size := by
  rw [Tryd.params5]
  intro t ht
  have h : (([43] : List TypeId).all fun t => Tryd.prog.readableRec t && decide (t < Tryd.prog.types.size)) = true := by kernel_rfl
  simpa using (List.all_eq_true.1 h) t ht

noncomputable def insFields : Array Field := match Tryd.prog.underlying 50 with
  | some (.struct fs) => fs
  | _ => #[]

theorem insT : InsT Tryd.prog 43 50 3 28 21 48 insFields where
  hL := by kernel_rfl
  hI := by kernel_rfl
  hz := by kernel_rfl
  hf := by kernel_rfl
  h1 := ⟨by kernel_rfl, by kernel_rfl, by kernel_rfl, by kernel_rfl, by kernel_rfl⟩
  ki := by kernel_rfl
  ku := by kernel_rfl
  kn := by kernel_rfl
  kt := by kernel_rfl

theorem walk (w : World) (a0 : List Ins) (hl0 : a0.length ≤ maxLen) (hw0 : wfL a0) (v0 : Value) (hv0 : VA (allPure w) w (aL a0) v0) (hL : laidMetH Tryd.prog N.laidTabP w) :
    Calls Tryd.prog 5 #[v0] w fun e w' => e = .returned (.bool true) ∧ Below w.heap.size w w' :=
  calls_of_does (E := N.envP) (args := [aL a0]) (pure := fun c o => ∃ v, w.cell? ⟨c, o, none⟩ = some v) (N.parts_does hl0 hw0) (fun _ _ h => h)
    ⟨hv0, trivial⟩ ((tabs_globE (N.tabsP_hold hL) rfl).mono fun _ _ p => ⟨tabs_there (N.tabsP_hold hL) _ _ p, rfl⟩)

set_option maxRecDepth 100000 in
theorem lifted (os : Os) (started : os.Started) (H : Type) (enc : TypeId × Value → H) :
    ReturnsInHanded {} Tryd.checked os 5 .any (fun w args => (Rows.instrPartsSpec.pre enc Tryd.prog Tryd.f5 [] false w args ∧ laidMetH Tryd.prog N.laidTabP w) ∧ sizedMet enc Tryd.prog Tryd.f5 (OpenSpec.ofChange Rows.instrPartsSpec) false w args) (Rows.instrPartsSpec.post enc Tryd.prog Tryd.f5 false true false false) := by
  refine returnsInHanded_of_change_and (C := Tryd.checked) (X := fun w _ => laidMetH Tryd.prog N.laidTabP w) (fun _ _ _ hh h => h.of_heap hh) own started (by kernel_rfl) Tryd.func5
    (ChangeSpec.witness_shaped (enc := enc) (C := Tryd.checked) (os := os) (X := fun w _ => laidMetH Tryd.prog N.laidTabP w) false (World.laidAll Tryd.prog os N.laidTabP) #[.slice none 0 0] 8 (World.laidAll_os _ _ _)
      (World.shaped_of_ZipB (by kernel_rfl) (by kernel_rfl)) (by kernel_rfl) (by kernel_rfl) (by kernel_rfl)
      (by rw [MakeChecks.laidMetH_plain _ _ _ (by kernel_rfl)]; exact laidMet_laidAll _ (by kernel_rfl) (by kernel_rfl))) ?_
  intro W base args ds gs before hval0 hW _ _ hL _
  have hW' := hW
  obtain ⟨p, q, hA0, hV, rfl, hfz, hnd⟩ := hW
  have hA : DataW.TrodAll enc Tryd.prog W 0 (fun _ => true) true Tryd.f5.params.toList args.toList ds p := hA0
  have hval : ∀ (j : Nat) t v, Tryd.f5.params[j]? = some t → args[j]? = some v → Value.okWide Tryd.prog W .any base t v := hval0
  rw [Tryd.params5] at hA hval
  obtain ⟨v0, vs0, d0, ds0, p0, q0, hargs, rfl, rfl, h0, r0⟩ := trodAll_cons hA
  obtain ⟨rfl, rfl, rfl⟩ := trodAll_nil r0
  obtain rfl : args = #[v0] := by cases args; simp_all
  obtain ⟨rfl, rfl⟩ := trodVars_none hV
  obtain ⟨ad0, len0, cap0, rfl⟩ := okWide_slice insT.hL (hval 0 43 v0 rfl rfl)
  obtain ⟨fuel0, h0⟩ := h0
  obtain ⟨a0, ⟨hl0, hw0⟩, hc0, _⟩ := ins_of_trod insT fuel0 _ _ h0
  have hva0 : VA (allPure W) W (aL a0) (.slice ad0 len0 cap0) := .p _ _ hc0.1
  clear hA0 hval0
  simp only [List.append_nil] at hW'
  refine (walk W a0 hl0 hw0 _ hva0 hL).mono fun e W' ⟨he, hg⟩ => ?_
  subst he
  exact ⟨_, rfl, law_post (by kernel_rfl) typesOk rfl Tryd.underlying4 rfl hW' rfl hg⟩

theorem over : Rows.instrPartsRow.holds Tryd.pinned (OpenSpec.ofChange Rows.instrPartsSpec) :=
  OpenClaim.holds_of_wide 5 Tryd.f5 rfl rfl rfl rfl rfl rfl rfl ⟨rfl, rfl, rfl, rfl, rfl⟩ rfl rfl rfl rfl rfl (by kernel_rfl) Tryd.func5 (by kernel_rfl)
    (of_decide_eq_true (by kernel_rfl)) (by unfold Func.isWrapper; first | (rw [if_pos (by decide +kernel)]; kernel_rfl) | (rw [if_neg (by decide +kernel)]; exact ⟨rfl, rfl⟩))
    (fun os started H enc _ => lifted os started H enc)

/-- THE ROW -/
theorem row_holds : Rows.InstrPartsSaid := over

/-- THE STATEMENT: the card -/
theorem proved : Rows.InstrPartsCardSaid :=
  Claim7.holds_tied_plain_at .later [] [.data, .data, .data, .listed, .data] true Rows.instrPartsCard.stood.harness false
    row_holds (fun _ h => by cases h) (by kernel_rfl) (fun _ h => by cases h) instrParts_row_tie rfl ⟨rfl, rfl⟩ (by kernel_rfl) rfl
    (fun f fn hf hfn => by
      obtain rfl : f = 5 := Option.some.inj ((show Tryd.prog.funcNamed Rows.instrPartsRow.func = some 5 by kernel_rfl).symm.trans hf) |>.symm
      obtain rfl : fn = Tryd.f5 := (Option.some.inj (Tryd.func5.symm.trans hfn)).symm
      exact ⟨by kernel_rfl, fun j t ht => by
        rw [Tryd.params5] at ht
        have hm : t ∈ ([43] : List TypeId) := by simpa using Array.mem_of_getElem? ht
        have hall : (([43] : List TypeId).all fun u => !Tryd.prog.wantsStandIn u) = true := by kernel_rfl
        exact (show Tryd.prog.wantsStandIn t = false by simpa using List.all_eq_true.1 hall t hm)⟩)
    (by kernel_rfl)
#print axioms proved
end Go.Proofs.YtjjloibfhgofcaaDoor.instrParts
end
