/-
  A law's call, by the executor; what the given statements ask of it where all old memory stays as it was.
-/
import Derived.Test.YtiphaojaolcidaaDoorAm20
import Derived.WalkKit
import Derived.ProofKit
import Derived.OpenShut
import Derived.Carry
namespace Go.Am
open Go.RowKit Go.ChangeShapes

section
variable {P : Program} {E : Env}

/-- Nothing is owned; these cells are leaned on. -/
def bare (pure : Nat → Nat → Prop) : Gh := ⟨fun _ => none, fun _ => 0, fun _ => 0, pure⟩

theorem Rel.bare {pure : Nat → Nat → Prop} {w : World} (h : ∀ c o, pure c o → ∃ v, w.cell? ⟨c, o, none⟩ = some v) : Rel (Am.bare pure) [] w where
  far _ _ := rfl
  free _ _ := rfl
  cells i b l hi := by simp at hi
  tok i c hi := by simp at hi
  inj i j b b' c hi := by simp at hi
  there := h
  obs i k l hi := by simp at hi

theorem calls_of_does {f : FuncId} {args : List AV} {m' : Mem} {x : Value} {pure : Nat → Nat → Prop} {w : World} {cargs : Array Value} (h : Does P E f args [] (.p (.sc x)) m')
    (hp : ∀ c o, pure c o → ∃ v, w.cell? ⟨c, o, none⟩ = some v) (ha : VAs (Am.bare pure) w args cargs.toList) (hg : GlobOk E (Am.bare pure) w) :
    Calls P f cargs w fun e w' => e = .returned x ∧ Below w.heap.size w w' := by
  intro cs
  obtain ⟨_, h⟩ := h
  obtain ⟨w', g', cv, fr, h1, h2, h3, h4, _, h6, _, _⟩ := h _ w cargs cs (Rel.bare hp) ha hg
  rw [VA.pv] at h4
  cases h4
  refine ⟨.returned x, w', fr, ⟨rfl, h6.os, h6.tape, h6.output, h6.size, fun k hk => h6.keep k hk ?_⟩, h1, h3, h2⟩
  rintro ⟨i, b, hi, _⟩
  simp at hi

/-- No package-level variable is asked. -/
def noGlob : Env := { glob := fun _ => none, wr := fun _ _ => false, keep := fun _ _ => none }

theorem GlobOk.none {E : Env} {g : Gh} {w : World} (h : ∀ i, E.glob i = none) : GlobOk E g w := fun i cs hi => by rw [h i] at hi; cases hi

section
variable {H : Type} {enc : TypeId × Value → H}

theorem trodVars_nil {W : World} {sp : Nat → Bool} : DataW.TrodVars enc P W sp [] [] [] := by simp [DataW.TrodVars]

theorem trodAll_stays (hl : laidOutB P = true) {W W' : World} (hb : Below W.heap.size W W') {sp : Nat → Bool} : ∀ {ts : List TypeId} {vs : List Value} {ds : List (DataW H)} {ps : List MemPlace},
    (∀ t ∈ ts, P.readableRec t = true ∧ t < P.types.size) → DataW.TrodAll enc P W 0 (fun _ => true) true ts vs ds ps → (∀ p ∈ ps, p.block < W.heap.size ∧ sp p.block = true) → DataW.TrodAll enc P W' 0 sp true ts vs ds ps
  | [], _, _, _, _, h, _ => by
    obtain ⟨rfl, rfl, rfl⟩ := trodAll_nil h
    exact trodAll_mk0
  | t :: ts, _, _, _, ht, h, hp => by
    obtain ⟨v, vs1, d, ds1, a, b, rfl, rfl, rfl, h1, h2⟩ := trodAll_cons h
    refine ⟨a, b, WideElems.Trod_stays hl (ht t (.head _)).1 (ht t (.head _)).2 h1 (fun x hx => hb.same (hp x (by simp [hx])).1) (fun x hx => (hp x (by simp [hx])).2), ?_, rfl⟩
    exact trodAll_stays hl hb (fun u hu => ht u (.tail _ hu)) h2 fun x hx => hp x (by simp [hx])

theorem law_post {f : Func} {s : ChangeSpec} {apart fresh handsOn again : Bool} {W W' : World} {args : Array Value} {ds gs : List (DataW H)} {before : List MemPlace} {tb : TypeId}
    (hl : laidOutB P = true) (ht : ∀ t ∈ f.params.toList, P.readableRec t = true ∧ t < P.types.size) (hrt : f.resultTypes = #[tb]) (hub : P.underlying tb = some .bool) (hvs : s.vars = [])
    (hW : DataW.Whole enc P f.params.toList s.vars apart W args.toList ds gs before) (hf : s.fn H (ds ++ gs) = { results := [.lit (.bool true)], args := ds }) (hb : Below W.heap.size W W') :
    s.post enc P f apart fresh handsOn again W args (.bool true) W' := by
  have hW' := hW
  obtain ⟨p, q, hA, hV, rfl, hfz, hnd⟩ := hW
  rw [hvs] at hV
  obtain ⟨rfl, rfl⟩ := trodVars_none hV
  have hlt : ∀ x ∈ p, x.block < W.heap.size := fun x hx => hW'.lt x (by simp [hx])
  have hargs : ∀ sp : Nat → Bool, (∀ x ∈ p, sp x.block = true) → DataW.TrodAll enc P W' 0 sp true f.params.toList args.toList ds p := fun sp hsp => trodAll_stays hl hb ht hA fun x hx => ⟨hlt x hx, hsp x hx⟩
  have hres : ∀ (b : Nat) (sp : Nat → Bool) (hd : Bool), DataW.TrodAll enc P W' b sp hd f.resultTypes.toList ((Value.bool true).resultList f.resultTypes.size) [.lit (.bool true)] [] := by
    intro b sp hd
    rw [hrt]
    exact trodAll_cons_mk (shut_bool hub _) trodAll_mk0
  refine ⟨ds, [], p ++ [], [], p, [], hW', ?_, ?_, ?_, hb.frame _, fun _ => ⟨?_, [.lit (.bool true)] ++ ds, [], ([] ++ p) ++ [], ⟨[] ++ p, [], ?_, ?_, rfl, ?_, ?_⟩, ?_⟩⟩
  · rw [hf]; exact hres _ _ _
  · rw [hf]; exact hargs _ fun x hx => by simpa using hlt x hx
  · rw [hf, hvs]; exact trodVars_nil
  · exact ok_one hrt rfl (okWide_bool_mk hub _)
  · exact trodAll_append (hargs _ fun _ _ => rfl) (hres _ _ _)
  · rw [hvs]; exact trodVars_nil
  · intro b off hx
    rw [hb.frozen (hlt _ (by simpa using hx))]
    exact hfz b off (by simpa using hx)
  · intro ha
    simpa using hnd ha
  · intro x hx _
    simpa using hx
end
end
end Go.Am
