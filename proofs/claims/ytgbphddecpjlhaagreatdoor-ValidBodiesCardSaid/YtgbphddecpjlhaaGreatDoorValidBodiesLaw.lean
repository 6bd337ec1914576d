/-
  ValidBodies, the tied card: for every input the call returns true, and each argument reads as before. No condition but the row's own: the library's tables hold what the program's text lays in them (the card ties that to the text). The parts of its proof: the executor (the texts Am..), pure values (Ins..), what each function tells (the chapter's own texts).
-/
import Derived.Test.YtgbphddecpjlhaaGreatDoorMR
import Derived.Test.YtgbphddecpjlhaaGreatDoorRows
import Derived.Test.YtgbphddecpjlhaaGreatDoorCards
import Derived.Test.YtgbphddecpjlhaaGreatDoorTie
import Derived.SevenTiedAt
import Derived.Lay

section
namespace Go.Proofs.YtgbphddecpjlhaaGreatDoor.validBodies
open Go.ChangeShapes Go.WideShapes Go.ChangeAt Go.RowKit Go.Am

theorem own : ownKnob Tryz.prog.godebug = none := by kernel_rfl

theorem typesOk : ∀ t ∈ Tryz.f3.params.toList, Tryz.prog.readableRec t = true ∧ t < Tryz.prog.types.size := by
  rw [Tryz.params3]
  intro t ht
  have h : (([24, 26] : List TypeId).all fun t => Tryz.prog.readableRec t && decide (t < Tryz.prog.types.size)) = true := by kernel_rfl
  simpa using (List.all_eq_true.1 h) t ht

noncomputable def insFields : Array Field := match Tryz.prog.underlying 52 with
  | some (.struct fs) => fs
  | _ => #[]

theorem insT : InsT Tryz.prog 22 52 3 34 21 50 insFields where
  hL := by kernel_rfl
  hI := by kernel_rfl
  hz := by kernel_rfl
  hf := by kernel_rfl
  h1 := ⟨by kernel_rfl, by kernel_rfl, by kernel_rfl, by kernel_rfl, by kernel_rfl⟩
  ki := by kernel_rfl
  ku := by kernel_rfl
  kn := by kernel_rfl
  kt := by kernel_rfl

noncomputable def codeFields : Array Field := match Tryz.prog.underlying 24 with
  | some (.struct fs) => fs
  | _ => #[]
noncomputable def typeFields : Array Field := match Tryz.prog.underlying 26 with
  | some (.struct fs) => fs
  | _ => #[]
theorem codeS : Tryz.prog.underlying 24 = some (.struct codeFields) := by kernel_rfl
theorem typeS : Tryz.prog.underlying 26 = some (.struct typeFields) := by kernel_rfl

theorem walk (w : World) (lo : Int) (l : List Ins) (hl : l.length ≤ maxLen) (hw : wfL l) (tp tr : Int) (v0 v1 : Value) (h0 : VA (allPure w) w (.agg [sI .i64 lo, aL l]) v0) (h1 : VA (allPure w) w (.agg [sI .i64 tp, sI .i64 tr]) v1) (hL : laidMetH Tryz.prog N.laidTab w) :
    Calls Tryz.prog 3 #[v0, v1] w fun e w' => e = .returned (.bool true) ∧ Below w.heap.size w w' :=
  calls_of_does (E := N.envQ) (args := [.agg [sI .i64 lo, aL l], .agg [sI .i64 tp, sI .i64 tr]]) (pure := fun c o => ∃ v, w.cell? ⟨c, o, none⟩ = some v) (N.vb_does l lo tp tr hl hw) (fun _ _ h => h)
    ⟨h0, ⟨h1, trivial⟩⟩ ((tabs_globE (N.tabs_hold hL) rfl).mono fun _ _ p => ⟨tabs_there (N.tabs_hold hL) _ _ p, rfl⟩)

set_option maxRecDepth 100000 in
theorem lifted (os : Os) (started : os.Started) (H : Type) (enc : TypeId × Value → H) :
    ReturnsInHanded {} Tryz.checked os 3 .any (fun w args => (Rows.validBodiesSpec.pre enc Tryz.prog Tryz.f3 [] false w args ∧ laidMetH Tryz.prog N.laidTab w) ∧ sizedMet enc Tryz.prog Tryz.f3 (OpenSpec.ofChange Rows.validBodiesSpec) false w args) (Rows.validBodiesSpec.post enc Tryz.prog Tryz.f3 false true false false) := by
  refine returnsInHanded_of_change_and (C := Tryz.checked) (X := fun w _ => laidMetH Tryz.prog N.laidTab w) (fun _ _ _ hh h => h.of_heap hh) own started (by kernel_rfl) Tryz.func3
    (ChangeSpec.witness_shaped (enc := enc) (C := Tryz.checked) (os := os) (X := fun w _ => laidMetH Tryz.prog N.laidTab w) false (World.laidAll Tryz.prog os N.laidTab) #[.agg #[.int .i64 0, .slice none 0 0], .agg #[.int .i64 0, .int .i64 0]] 8 (World.laidAll_os _ _ _)
      (World.shaped_of_ZipB (by kernel_rfl) (by kernel_rfl)) (by kernel_rfl) (by kernel_rfl) (by kernel_rfl)
      (by rw [MakeChecks.laidMetH_plain _ _ _ (by kernel_rfl)]; exact laidMet_laidAll _ (by kernel_rfl) (by kernel_rfl))) ?_
  intro W base args ds gs before hval0 hW _ _ hL _
  have hW' := hW
  obtain ⟨p, q, hA0, hV, rfl, hfz, hnd⟩ := hW
  have hA : DataW.TrodAll enc Tryz.prog W 0 (fun _ => true) true Tryz.f3.params.toList args.toList ds p := hA0
  have hval : ∀ (j : Nat) t v, Tryz.f3.params[j]? = some t → args[j]? = some v → Value.okWide Tryz.prog W .any base t v := hval0
  rw [Tryz.params3] at hA hval
  obtain ⟨v0, vs0, d0, ds0, p0, q0, hargs, rfl, rfl, h0, r0⟩ := trodAll_cons hA
  obtain ⟨v1, vs1, d1, ds1, p1, q1, rfl, rfl, rfl, h1, r1⟩ := trodAll_cons r0
  obtain ⟨rfl, rfl, rfl⟩ := trodAll_nil r1
  obtain rfl : args = #[v0, v1] := by cases args; simp_all
  obtain ⟨rfl, rfl⟩ := trodVars_none hV
  obtain ⟨cs0, rfl, _⟩ := okWide_struct codeS (hval 0 24 v0 rfl rfl)
  obtain ⟨fuel0, h0⟩ := h0
  obtain ⟨u0, u1, m0, y0, y1, e0, g0, g1⟩ := cells_of_pair codeS (by kernel_rfl) (t1 := 3) (t2 := 22) (by kernel_rfl) (by kernel_rfl) (by kernel_rfl) h0
  obtain ⟨lo, _, k0⟩ := cells_of_int insT.ki g0
  obtain ⟨l, ⟨hl, hw⟩, k1⟩ := ins_of_trod insT m0 _ _ g1
  have hva0 : VA (allPure W) W (.agg [sI .i64 lo, aL l]) (.agg cs0) := va_agg (l := [.sc (.int .i64 lo), .ps l.length 8 (encL l)]) (by have e : cs0.toList = [u0, u1] := e0; rw [e]; exact (k0.cat k1).1)
  obtain ⟨cs1, rfl, _⟩ := okWide_struct typeS (hval 1 26 v1 rfl rfl)
  obtain ⟨fuel1, h1⟩ := h1
  obtain ⟨u2, u3, m1, y2, y3, e1, g2, g3⟩ := cells_of_pair typeS (by kernel_rfl) (t1 := 3) (t2 := 3) (by kernel_rfl) (by kernel_rfl) (by kernel_rfl) h1
  obtain ⟨tp, _, k2⟩ := cells_of_int insT.ki g2
  obtain ⟨tr, _, k3⟩ := cells_of_int insT.ki g3
  have hva1 : VA (allPure W) W (.agg [sI .i64 tp, sI .i64 tr]) (.agg cs1) := va_agg (l := [.sc (.int .i64 tp), .sc (.int .i64 tr)]) (by have e : cs1.toList = [u2, u3] := e1; rw [e]; exact (k2.cat k3).1)
  clear hA0 hval0
  simp only [List.append_nil] at hW'
  refine (walk W lo l hl hw tp tr _ _ hva0 hva1 hL).mono fun e W' ⟨he, hg⟩ => ?_
  subst he
  exact ⟨_, rfl, law_post (by kernel_rfl) typesOk rfl Tryz.underlying4 rfl hW' rfl hg⟩

theorem over : Rows.validBodiesRow.holds Tryz.pinned (OpenSpec.ofChange Rows.validBodiesSpec) :=
  OpenClaim.holds_of_wide 3 Tryz.f3 rfl rfl rfl rfl rfl rfl rfl ⟨rfl, rfl, rfl, rfl, rfl⟩ rfl rfl rfl rfl rfl (by kernel_rfl) Tryz.func3 (by kernel_rfl)
    (of_decide_eq_true (by kernel_rfl)) (by unfold Func.isWrapper; first | (rw [if_pos (by decide +kernel)]; kernel_rfl) | (rw [if_neg (by decide +kernel)]; exact ⟨rfl, rfl⟩))
    (fun os started H enc _ => lifted os started H enc)

theorem row_holds : Rows.ValidBodiesSaid := over

theorem proved : Rows.ValidBodiesCardSaid :=
  Claim7.holds_tied_plain_at .later [] [.data, .listed, .data, .pinned] true Rows.validBodiesCard.stood.harness false
    row_holds (fun _ h => by cases h) (by kernel_rfl) (fun _ h => by cases h) validBodies_row_tie rfl ⟨rfl, rfl⟩ (by kernel_rfl) rfl
    (fun f fn hf hfn => by
      obtain rfl : f = 3 := Option.some.inj ((show Tryz.prog.funcNamed Rows.validBodiesRow.func = some 3 by kernel_rfl).symm.trans hf) |>.symm
      obtain rfl : fn = Tryz.f3 := (Option.some.inj (Tryz.func3.symm.trans hfn)).symm
      exact ⟨by kernel_rfl, fun j t ht => by
        rw [Tryz.params3] at ht
        have hm : t ∈ ([24, 26] : List TypeId) := by simpa using Array.mem_of_getElem? ht
        have hall : (([24, 26] : List TypeId).all fun u => !Tryz.prog.wantsStandIn u) = true := by kernel_rfl
        exact (show Tryz.prog.wantsStandIn t = false by simpa using List.all_eq_true.1 hall t hm)⟩)
    (by kernel_rfl)
#print axioms proved
end Go.Proofs.YtgbphddecpjlhaaGreatDoor.validBodies
end
