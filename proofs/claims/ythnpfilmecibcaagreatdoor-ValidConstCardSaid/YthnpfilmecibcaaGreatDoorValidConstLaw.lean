/-
  ValidConst, the tied card: for every input the call returns true, and each argument reads as before. No condition but the row's own: the library's tables hold what the program's text lays in them (the card ties that to the text). The parts of its proof: the executor (Am1 .. Am24), instructions as pure values (InsA, InsB), what each function tells (VcT .. VcX).
-/
import Derived.Test.YthnpfilmecibcaaGreatDoorVcX
import Derived.Test.YthnpfilmecibcaaGreatDoorVcB
import Derived.Test.YthnpfilmecibcaaGreatDoorRows
import Derived.Test.YthnpfilmecibcaaGreatDoorCards
import Derived.Test.YthnpfilmecibcaaGreatDoorTie
import Derived.SevenTiedAt
import Derived.Lay
namespace Go.Proofs.YthnpfilmecibcaaGreatDoor.validConst
open Go.ChangeShapes Go.WideShapes Go.ChangeAt Go.RowKit Go.Am

theorem own : ownKnob Tryz.prog.godebug = none := by kernel_rfl

theorem typesOk : ∀ t ∈ Tryz.f3.params.toList, Tryz.prog.readableRec t = true ∧ t < Tryz.prog.types.size := by
  rw [Tryz.params3]
  intro t ht
  have h : (([22] : List TypeId).all fun t => Tryz.prog.readableRec t && decide (t < Tryz.prog.types.size)) = true := by kernel_rfl
  simpa using (List.all_eq_true.1 h) t ht

noncomputable def insFields : Array Field := match Tryz.prog.underlying 33 with
  | some (.struct fs) => fs
  | _ => #[]

theorem insT : InsT Tryz.prog 22 33 3 24 21 31 insFields where
  hL := by kernel_rfl
  hI := by kernel_rfl
  hz := by kernel_rfl
  hf := by kernel_rfl
  h1 := ⟨by kernel_rfl, by kernel_rfl, by kernel_rfl, by kernel_rfl, by kernel_rfl⟩
  ki := by kernel_rfl
  ku := by kernel_rfl
  kn := by kernel_rfl
  kt := by kernel_rfl

theorem walk (l : List Ins) (hl : l.length ≤ maxLen) (hw : wfL l) (v0 : Value) (w : World) (hv : VA (allPure w) w (N.aL l) v0) (hL : laidMetH Tryz.prog N.laidTab w) :
    Calls Tryz.prog 3 #[v0] w fun e w' => e = .returned (.bool true) ∧ Below w.heap.size w w' :=
  calls_of_does (E := N.env) (args := [N.aL l]) (pure := fun c o => ∃ v, w.cell? ⟨c, o, none⟩ = some v) (N.law_does l hl hw) (fun _ _ h => h)
    ⟨hv, trivial⟩ ((tabs_globE (N.tabs_hold hL) rfl).mono fun _ _ p => ⟨tabs_there (N.tabs_hold hL) _ _ p, rfl⟩)

set_option maxRecDepth 100000 in
theorem lifted (os : Os) (started : os.Started) (H : Type) (enc : TypeId × Value → H) :
    ReturnsInHanded {} Tryz.checked os 3 .any (fun w args => (Rows.validConstSpec.pre enc Tryz.prog Tryz.f3 [] false w args ∧ laidMetH Tryz.prog N.laidTab w) ∧ sizedMet enc Tryz.prog Tryz.f3 (OpenSpec.ofChange Rows.validConstSpec) false w args) (Rows.validConstSpec.post enc Tryz.prog Tryz.f3 false true false false) := by
  refine returnsInHanded_of_change_and (C := Tryz.checked) (X := fun w _ => laidMetH Tryz.prog N.laidTab w) (fun _ _ _ hh h => h.of_heap hh) own started (by kernel_rfl) Tryz.func3
    (ChangeSpec.witness_shaped (enc := enc) (C := Tryz.checked) (os := os) (X := fun w _ => laidMetH Tryz.prog N.laidTab w) false (World.laidAll Tryz.prog os N.laidTab) #[.slice none 0 0] 8 (World.laidAll_os _ _ _)
      (World.shaped_of_ZipB (by kernel_rfl) (by kernel_rfl)) (by kernel_rfl) (by kernel_rfl) (by kernel_rfl)
      (by rw [MakeChecks.laidMetH_plain _ _ _ (by kernel_rfl)]; exact laidMet_laidAll _ (by kernel_rfl) (by kernel_rfl))) ?_
  intro W base args ds gs before hval0 hW _ _ hL _
  have hW' := hW
  obtain ⟨p, q, hA0, hV, rfl, hfz, hnd⟩ := hW
  have hA : DataW.TrodAll enc Tryz.prog W 0 (fun _ => true) true Tryz.f3.params.toList args.toList ds p := hA0
  have hval : ∀ (j : Nat) t v, Tryz.f3.params[j]? = some t → args[j]? = some v → Value.okWide Tryz.prog W .any base t v := hval0
  rw [Tryz.params3] at hA hval
  obtain ⟨v0, vs0, d0, ds0, p0, q0, hargs, rfl, rfl, h0, r0⟩ := trodAll_cons hA
  obtain ⟨rfl, rfl, rfl⟩ := trodAll_nil r0
  obtain rfl : args = #[v0] := by cases args; simp_all
  obtain ⟨rfl, rfl⟩ := trodVars_none hV
  obtain ⟨a, len, cap, rfl⟩ := okWide_slice insT.hL (hval 0 22 v0 rfl rfl)
  obtain ⟨fuel, h0⟩ := h0
  obtain ⟨l, ⟨hl, hw⟩, hc, _⟩ := ins_of_trod insT fuel _ _ h0
  have hva : VA (allPure W) W (N.aL l) (.slice a len cap) := .p _ _ hc.1
  clear hA0 hval0
  simp only [List.append_nil] at hW'
  refine (walk l hl hw _ W hva hL).mono fun e W' ⟨he, hg⟩ => ?_
  subst he
  exact ⟨_, rfl, law_post (by kernel_rfl) typesOk rfl Tryz.underlying4 rfl hW' rfl hg⟩

theorem over : Rows.validConstRow.holds Tryz.pinned (OpenSpec.ofChange Rows.validConstSpec) :=
  OpenClaim.holds_of_wide 3 Tryz.f3 rfl rfl rfl rfl rfl rfl rfl ⟨rfl, rfl, rfl, rfl, rfl⟩ rfl rfl rfl rfl rfl (by kernel_rfl) Tryz.func3 (by kernel_rfl)
    (of_decide_eq_true (by kernel_rfl)) (by unfold Func.isWrapper; first | (rw [if_pos (by decide +kernel)]; kernel_rfl) | (rw [if_neg (by decide +kernel)]; exact ⟨rfl, rfl⟩))
    (fun os started H enc _ => lifted os started H enc)

/-- THE ROW -/
theorem row_holds : Rows.ValidConstSaid := over

/-- THE STATEMENT: the card -/
theorem proved : Rows.ValidConstCardSaid :=
  Claim7.holds_tied_plain_at .later [] [.data, .listed, .data, .pinned] true Rows.validConstCard.stood.harness false
    row_holds (fun _ h => by cases h) (by kernel_rfl) (fun _ h => by cases h) validConst_row_tie rfl ⟨rfl, rfl⟩ (by kernel_rfl) rfl
    (fun f fn hf hfn => by
      obtain rfl : f = 3 := Option.some.inj ((show Tryz.prog.funcNamed Rows.validConstRow.func = some 3 by kernel_rfl).symm.trans hf) |>.symm
      obtain rfl : fn = Tryz.f3 := (Option.some.inj (Tryz.func3.symm.trans hfn)).symm
      exact ⟨by kernel_rfl, fun j t ht => by
        rw [Tryz.params3] at ht
        have hm : t ∈ ([22] : List TypeId) := by simpa using Array.mem_of_getElem? ht
        have hall : (([22] : List TypeId).all fun u => !Tryz.prog.wantsStandIn u) = true := by kernel_rfl
        exact (show Tryz.prog.wantsStandIn t = false by simpa using List.all_eq_true.1 hall t hm)⟩)
    (by kernel_rfl)
#print axioms proved
end Go.Proofs.YthnpfilmecibcaaGreatDoor.validConst
