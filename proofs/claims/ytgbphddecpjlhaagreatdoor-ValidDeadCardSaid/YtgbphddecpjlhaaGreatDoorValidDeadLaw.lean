/-
  ValidDead, the tied card: for every input the call returns true, and each argument reads as before. No condition but the row's own: the library's tables hold what the program's text lays in them (the card ties that to the text). The parts of its proof: the executor (the texts Am..), pure values (Ins..), what each function tells (the chapter's own texts).
-/
import Derived.Test.YtgbphddecpjlhaaGreatDoorMT
import Derived.Test.YtgbphddecpjlhaaGreatDoorMH
import Derived.Test.YtgbphddecpjlhaaGreatDoorRows
import Derived.Test.YtgbphddecpjlhaaGreatDoorCards
import Derived.Test.YtgbphddecpjlhaaGreatDoorTie
import Derived.SevenTiedAt
import Derived.Lay

section
namespace Go.Proofs.YtgbphddecpjlhaaGreatDoor.validDead
open Go.ChangeShapes Go.WideShapes Go.ChangeAt Go.RowKit Go.Am

theorem own : ownKnob Tryz.prog.godebug = none := by kernel_rfl

theorem typesOk : ∀ t ∈ Tryz.f4.params.toList, Tryz.prog.readableRec t = true ∧ t < Tryz.prog.types.size := by
  rw [Tryz.params4]
  intro t ht
  have h : (([52] : List TypeId).all fun t => Tryz.prog.readableRec t && decide (t < Tryz.prog.types.size)) = true := by kernel_rfl
  simpa using (List.all_eq_true.1 h) t ht

noncomputable def insFields : Array Field := match Tryz.prog.underlying 52 with
  | some (.struct fs) => fs
  | _ => #[]

theorem insT : InsT Tryz.prog 22 52 3 34 21 50 insFields where
  hL := by kernel_rfl
  hI := by kernel_rfl
  hz := by kernel_rfl
  hf := by kernel_rfl
  h1 := ⟨by kernel_rfl, by kernel_rfl, by kernel_rfl, by kernel_rfl, by kernel_rfl⟩
  ki := by kernel_rfl
  ku := by kernel_rfl
  kn := by kernel_rfl
  kt := by kernel_rfl

theorem walk (w : World) (a0 : Ins) (hw0 : wfI a0) (v0 : Value) (hv0 : VA (allPure w) w (aggX a0) v0) (hL : laidMetH Tryz.prog N.laidTab w) :
    Calls Tryz.prog 4 #[v0] w fun e w' => e = .returned (.bool true) ∧ Below w.heap.size w w' :=
  calls_of_does (E := N.env) (args := [aggX a0]) (pure := fun c o => ∃ v, w.cell? ⟨c, o, none⟩ = some v) (N.ld_does a0 hw0) (fun _ _ h => h)
    ⟨hv0, trivial⟩ ((tabs_globE (N.tabs_hold hL) rfl).mono fun _ _ p => ⟨tabs_there (N.tabs_hold hL) _ _ p, rfl⟩)

set_option maxRecDepth 100000 in
theorem lifted (os : Os) (started : os.Started) (H : Type) (enc : TypeId × Value → H) :
    ReturnsInHanded {} Tryz.checked os 4 .any (fun w args => (Rows.validDeadSpec.pre enc Tryz.prog Tryz.f4 [] false w args ∧ laidMetH Tryz.prog N.laidTab w) ∧ sizedMet enc Tryz.prog Tryz.f4 (OpenSpec.ofChange Rows.validDeadSpec) false w args) (Rows.validDeadSpec.post enc Tryz.prog Tryz.f4 false true false false) := by
  refine returnsInHanded_of_change_and (C := Tryz.checked) (X := fun w _ => laidMetH Tryz.prog N.laidTab w) (fun _ _ _ hh h => h.of_heap hh) own started (by kernel_rfl) Tryz.func4
    (ChangeSpec.witness_shaped (enc := enc) (C := Tryz.checked) (os := os) (X := fun w _ => laidMetH Tryz.prog N.laidTab w) false (World.laidAll Tryz.prog os N.laidTab) #[(.agg #[.int .i64 0, .int .i64 0, .int .u32 0, .int .u32 0, .int .i32 0, .slice none 0 0, .slice none 0 0, .slice none 0 0])] 8 (World.laidAll_os _ _ _)
      (World.shaped_of_ZipB (by kernel_rfl) (by kernel_rfl)) (by kernel_rfl) (by kernel_rfl) (by kernel_rfl)
      (by rw [MakeChecks.laidMetH_plain _ _ _ (by kernel_rfl)]; exact laidMet_laidAll _ (by kernel_rfl) (by kernel_rfl))) ?_
  intro W base args ds gs before hval0 hW _ _ hL _
  have hW' := hW
  obtain ⟨p, q, hA0, hV, rfl, hfz, hnd⟩ := hW
  have hA : DataW.TrodAll enc Tryz.prog W 0 (fun _ => true) true Tryz.f4.params.toList args.toList ds p := hA0
  have hval : ∀ (j : Nat) t v, Tryz.f4.params[j]? = some t → args[j]? = some v → Value.okWide Tryz.prog W .any base t v := hval0
  rw [Tryz.params4] at hA hval
  obtain ⟨v0, vs0, d0, ds0, p0, q0, hargs, rfl, rfl, h0, r0⟩ := trodAll_cons hA
  obtain ⟨rfl, rfl, rfl⟩ := trodAll_nil r0
  obtain rfl : args = #[v0] := by cases args; simp_all
  obtain ⟨rfl, rfl⟩ := trodVars_none hV
  obtain ⟨cs0, rfl, _⟩ := okWide_struct insT.hI (hval 0 52 v0 rfl rfl)
  obtain ⟨fuel0, h0⟩ := h0
  obtain ⟨a0, hw0, hc0, _⟩ := insOne_of_trod insT h0
  have hva0 := va_ins hc0
  clear hA0 hval0
  simp only [List.append_nil] at hW'
  refine (walk W a0 hw0 _ hva0 hL).mono fun e W' ⟨he, hg⟩ => ?_
  subst he
  exact ⟨_, rfl, law_post (by kernel_rfl) typesOk rfl Tryz.underlying4 rfl hW' rfl hg⟩

theorem over : Rows.validDeadRow.holds Tryz.pinned (OpenSpec.ofChange Rows.validDeadSpec) :=
  OpenClaim.holds_of_wide 4 Tryz.f4 rfl rfl rfl rfl rfl rfl rfl ⟨rfl, rfl, rfl, rfl, rfl⟩ rfl rfl rfl rfl rfl (by kernel_rfl) Tryz.func4 (by kernel_rfl)
    (of_decide_eq_true (by kernel_rfl)) (by unfold Func.isWrapper; first | (rw [if_pos (by decide +kernel)]; kernel_rfl) | (rw [if_neg (by decide +kernel)]; exact ⟨rfl, rfl⟩))
    (fun os started H enc _ => lifted os started H enc)

/-- THE ROW -/
theorem row_holds : Rows.ValidDeadSaid := over

/-- THE STATEMENT: the card -/
theorem proved : Rows.ValidDeadCardSaid :=
  Claim7.holds_tied_plain_at .later [] [.data, .listed, .data, .pinned] true Rows.validDeadCard.stood.harness false
    row_holds (fun _ h => by cases h) (by kernel_rfl) (fun _ h => by cases h) validDead_row_tie rfl ⟨rfl, rfl⟩ (by kernel_rfl) rfl
    (fun f fn hf hfn => by
      obtain rfl : f = 4 := Option.some.inj ((show Tryz.prog.funcNamed Rows.validDeadRow.func = some 4 by kernel_rfl).symm.trans hf) |>.symm
      obtain rfl : fn = Tryz.f4 := (Option.some.inj (Tryz.func4.symm.trans hfn)).symm
      exact ⟨by kernel_rfl, fun j t ht => by
        rw [Tryz.params4] at ht
        have hm : t ∈ ([52] : List TypeId) := by simpa using Array.mem_of_getElem? ht
        have hall : (([52] : List TypeId).all fun u => !Tryz.prog.wantsStandIn u) = true := by kernel_rfl
        exact (show Tryz.prog.wantsStandIn t = false by simpa using List.all_eq_true.1 hall t hm)⟩)
    (by kernel_rfl)
#print axioms proved
end Go.Proofs.YtgbphddecpjlhaaGreatDoor.validDead
end
