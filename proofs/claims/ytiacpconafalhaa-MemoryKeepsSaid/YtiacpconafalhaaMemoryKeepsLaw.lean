/-
  MemoryKeeps: for every input the call returns true, and each argument reads as before. No condition. The parts of its proof: the executor (Am1 .. Am22), and what the code that it reaches is shown to do.
-/
import Derived.Test.YtiacpconafalhaaMkF
import Derived.Test.YtiacpconafalhaaAm24
import Derived.Test.YtiacpconafalhaaRows
namespace Go.Proofs.Ytiacpconafalhaa.memoryKeeps
open Go.ChangeShapes Go.WideShapes Go.ChangeAt Go.RowKit Go.Am

theorem own : ownKnob Try.prog.godebug = none := by kernel_rfl

theorem typesOk : ∀ t ∈ Try.f3.params.toList, Try.prog.readableRec t = true ∧ t < Try.prog.types.size := by
  rw [Try.params3]
  intro t ht
  have h : (([22, 22, 22, 23] : List TypeId).all fun t => Try.prog.readableRec t && decide (t < Try.prog.types.size)) = true := by kernel_rfl
  simpa using (List.all_eq_true.1 h) t ht

theorem walk (a0 : Int) (a1 : Int) (a2 : Int) (b : List Int) (w0 : (Lit.int .u32 a0).wf = true) (w1 : (Lit.int .u32 a1).wf = true) (w2 : (Lit.int .u32 a2).wf = true) (hb : ∀ n ∈ b, (Lit.int .u8 n).wf = true) (w : World) (v3 : Value) (hv3 : VA (allPure w) w (N.aB b) v3) :
    Calls Try.prog 3 #[.int .u32 a0, .int .u32 a1, .int .u32 a2, v3] w fun e w' => e = .returned (.bool true) ∧ Below w.heap.size w w' := by
  have q0 := inU32 w0
  have q1 := inU32 w1
  have q2 := inU32 w2
  obtain ⟨n0, rfl⟩ := Int.eq_ofNat_of_zero_le q0.1
  obtain ⟨n1, rfl⟩ := Int.eq_ofNat_of_zero_le q1.1
  obtain ⟨n2, rfl⟩ := Int.eq_ofNat_of_zero_le q2.1
  have hb' : N.isB b := fun x hx => by
    have h := hb x hx
    simp [Lit.wf, IntKind.min, IntKind.max, IntKind.signed, IntKind.bits] at h
    omega
  exact calls_of_does (E := N.env) (args := [sI .u32 n0, sI .u32 n1, sI .u32 n2, N.aB b]) (pure := fun c o => ∃ v, w.cell? ⟨c, o, none⟩ = some v) (N.keeps_does (by omega) (by omega) (by omega) hb') (fun _ _ h => h)
    ⟨.p _ _ (.sc _), .p _ _ (.sc _), .p _ _ (.sc _), hv3, trivial⟩ (.none fun _ => rfl)

set_option maxRecDepth 100000 in
theorem lifted (os : Os) (started : os.Started) (H : Type) (enc : TypeId × Value → H) :
    ReturnsInHanded {} Try.checked os 3 .any (Rows.memoryKeepsSpec.pre6 enc Try.prog Try.f3 Rows.memoryKeepsRow.domain false) (Rows.memoryKeepsSpec.post enc Try.prog Try.f3 false true false false) := by
  refine returnsInHanded_of_change (C := Try.checked) own started (by kernel_rfl) Try.func3
    (ChangeSpec.witness6 (enc := enc) (C := Try.checked) false ⟨#[], #[.int .u32 0, .int .u32 0, .int .u32 0, .slice none 0 0], []⟩ 8 (by kernel_rfl) (by kernel_rfl) (by kernel_rfl) (by kernel_rfl)) ?_
  intro W base args ds gs before hval0 hW hcnd _
  have hval : ∀ (j : Nat) t v, Try.f3.params[j]? = some t → args[j]? = some v → Value.okWide Try.prog W .any base t v := hval0
  have hW' := hW
  obtain ⟨p, q, hA0, hV, rfl, hfz, hnd⟩ := hW
  have hA : DataW.TrodAll enc Try.prog W 0 (fun _ => true) true Try.f3.params.toList args.toList ds p := hA0
  rw [Try.params3] at hA hval
  obtain ⟨v0, vs0, d0, ds0, p0, q0, hargs, rfl, rfl, h0, r0⟩ := trodAll_cons hA
  obtain ⟨v1, vs1, d1, ds1, p1, q1, rfl, rfl, rfl, h1, r1⟩ := trodAll_cons r0
  obtain ⟨v2, vs2, d2, ds2, p2, q2, rfl, rfl, rfl, h2, r2⟩ := trodAll_cons r1
  obtain ⟨v3, vs3, d3, ds3, p3, q3, rfl, rfl, rfl, h3, r3⟩ := trodAll_cons r2
  obtain ⟨rfl, rfl, rfl⟩ := trodAll_nil r3
  obtain rfl : args = #[v0, v1, v2, v3] := by cases args; simp_all
  obtain ⟨rfl, rfl⟩ := trodVars_none hV
  obtain ⟨a0, rfl, rfl, rfl, w0⟩ := open_int Try.underlying22 (hval 0 22 v0 rfl rfl) h0
  obtain ⟨a1, rfl, rfl, rfl, w1⟩ := open_int Try.underlying22 (hval 1 22 v1 rfl rfl) h1
  obtain ⟨a2, rfl, rfl, rfl, w2⟩ := open_int Try.underlying22 (hval 2 22 v2 rfl rfl) h2
  obtain ⟨ad, len, cap, rfl⟩ := okWide_slice Try.underlying23 (hval 3 23 v3 rfl rfl)
  obtain ⟨fuel, h3⟩ := h3
  obtain ⟨b, _, hb, hc⟩ := cells_of_ints Try.underlying23 Try.underlying5 (by kernel_rfl) h3
  have hva : VA (allPure W) W (N.aB b) (.slice ad len cap) := .p _ _ hc.1.1
  clear hA0 hval0
  simp only [List.append_nil] at hW'
  refine (walk a0 a1 a2 b w0 w1 w2 hb W _ hva).mono fun e W' ⟨he, hg⟩ => ?_
  subst he
  exact ⟨_, rfl, law_post (by kernel_rfl) typesOk rfl Try.underlying4 rfl hW' rfl hg⟩

theorem over : Rows.memoryKeepsRow.holds Try.pinned (OpenSpec.ofChange Rows.memoryKeepsSpec) :=
  OpenClaim.holds_of_wide 3 Try.f3 rfl rfl rfl rfl rfl rfl rfl ⟨rfl, rfl, rfl, rfl, rfl⟩ rfl rfl rfl rfl rfl (by kernel_rfl) Try.func3 (by kernel_rfl)
    (of_decide_eq_true (by kernel_rfl)) (by unfold Func.isWrapper; first | (rw [if_pos (by decide +kernel)]; kernel_rfl) | (rw [if_neg (by decide +kernel)]; exact ⟨rfl, rfl⟩))
    (fun os started H enc _ => lifted os started H enc)

/-- THE STATEMENT -/
theorem proved : Rows.MemoryKeepsSaid :=
  over
#print axioms proved
end Go.Proofs.Ytiacpconafalhaa.memoryKeeps
