/-
  A growing list's block under a new number, at a loop's head.
-/
import Derived.Test.YtiphaojaolcidaaDoorAm25
namespace Go.Am
open Go.RowKit

section
variable {P : Program} {E : Env} {g : Gh} {m : Mem} {w : World}

/-- An object's values, told another way. -/
theorem Rel.retell (h : Rel g m w) {i : Nat} {k : ObK} {l l' : List AV} (hb : m[i]? = some (.ob k l)) (hl : ∀ vs, VAs g w l vs → VAs g w l' vs) :
    Rel g (m.set i (.ob k l')) w ∧ Stp g m w g (m.set i (.ob k l')) w := by
  have own : ∀ (j : Nat) (x : Blk), (m.set i (.ob k l'))[j]? = some x → x.owns = true → ∃ y : Blk, m[j]? = some y ∧ y.owns = true := fun j x hj ho => by
    rcases get_set hj with ⟨rfl, _⟩ | ⟨_, q⟩
    · exact ⟨_, hb, rfl⟩
    · exact ⟨x, q, ho⟩
  refine ⟨⟨fun j hj => h.far j (by simpa using hj), fun j hj => ?_, fun j x cs hj hx => ?_, fun j c hj hc => ?_, fun j q x x' c hj hq ho ho' hc hc' => ?_, h.there, fun j k1 l1 hj => ?_⟩,
    ⟨Nat.le_refl _, fun _ _ _ => rfl, fun _ _ p => ⟨p, rfl⟩, fun _ _ p => .inl p, fun c ho => ?_, rfl, rfl, rfl⟩⟩
  · rcases get_set hj with ⟨_, q⟩ | ⟨_, q⟩
    · cases q
    · exact h.free j q
  · rcases get_set hj with ⟨_, rfl⟩ | ⟨_, q⟩
    · cases hx
    · exact h.cells j x cs q hx
  · rcases get_set hj with ⟨_, q⟩ | ⟨_, q⟩
    · cases q
    · exact h.tok j c q hc
  · obtain ⟨y, y1, y2⟩ := own j x hj ho
    obtain ⟨z, z1, z2⟩ := own q x' hq ho'
    exact h.inj j q y z c y1 z1 y2 z2 hc hc'
  · rcases get_set hj with ⟨rfl, q⟩ | ⟨_, q⟩
    · cases q
      obtain ⟨c, o, vs, k1, k2, k3, k4, k5, k6⟩ := h.obs _ _ _ hb
      exact ⟨c, o, vs, k1, k2, hl vs k3, k4, k5, k6⟩
    · exact h.obs j k1 l1 q
  · obtain ⟨j, x, hj, hx, hc⟩ := ho
    obtain ⟨y, y1, y2⟩ := own j x hj hx
    exact .inl ⟨j, y, y1, y2, hc⟩

/-- Is code to be done? -/
def inCode (c : Cfg) : Bool := match c.todo with
  | .code .. :: _ => true
  | _ => false

def swap1 (n i : Nat) : Option Nat := cond (Nat.beq i 1) (some n) (some i)

/-- A growing list's block, the second one, which the first one leans on, comes to the end. -/
theorem Good.moved {c : Cfg} {k0 : ObK} {l0 X : List AV} {t : TypeId} {q : Bool} {r : Mem} {o : Out} (hm : c.st.mem = .ob k0 l0 :: .ob (.gr t q) X :: r) (hc : inCode c = true)
    (h : Good P E { c with st := { c.st with mem := .ob k0 (renL (swap1 (r.length + 2)) l0) :: .dead :: r ++ [.ob (.gr t q) X] } } o) : Good P E c o := by
  refine Good.of_goes (fun g fr w hr cs => ?_) h
  obtain ⟨f, todo, st⟩ := c
  obtain ⟨tm, nt, mem, fix, mks, rnd⟩ := st
  dsimp only at hm
  subst hm
  match todo, hc with
  | .code i x :: k, _ =>
    obtain ⟨b, a, q1, q2, q3, q4, q5, q6⟩ := hr
    have hrel : Rel g (.ob k0 l0 :: .ob (.gr t q) X :: r) w := q5.rel
    obtain ⟨f1, f2⟩ := hrel.frees 1
    have hlen : (.ob k0 l0 :: .ob (.gr t q) X :: r : Mem).length = r.length + 2 := rfl
    have hb : ((.ob k0 l0 :: .ob (.gr t q) X :: r : Mem) ++ frees 1)[1]? = some (.ob (.gr t q) X) := rfl
    obtain ⟨c1, o1, vs1, b1, b2, b3, b4, b5, b6⟩ := f1.obs 1 _ _ hb
    have hn : ((.ob k0 l0 :: .ob (.gr t q) X :: r : Mem) ++ frees 1)[r.length + 2]? = some .free := by
      rw [List.getElem?_append_right (by rw [hlen]; exact Nat.le_refl _), hlen, Nat.sub_self]; rfl
    obtain ⟨m1, m2, m3⟩ := f1.move hb b1 hn
    have hb0 : ((((.ob k0 l0 :: .ob (.gr t q) X :: r : Mem) ++ frees 1).set 1 .dead).set (r.length + 2) (.ob (.gr t q) X))[0]? = some (.ob k0 l0) := by
      rw [List.getElem?_set_ne (by omega)]; rfl
    have hre : Renames (swap1 (r.length + 2)) (g.put (r.length + 2) c1 (g.lo 1) (g.hi 1)) (g.put (r.length + 2) c1 (g.lo 1) (g.hi 1)) := ⟨fun i k hk => by
      unfold swap1 at hk
      cases hi : Nat.beq i 1 with
      | true =>
        rw [hi] at hk
        obtain rfl := Option.some.inj hk
        obtain rfl := Nat.eq_of_beq_eq_true hi
        simp [Gh.put, b1]
      | false =>
        rw [hi] at hk
        obtain rfl := Option.some.inj hk
        exact ⟨rfl, rfl, rfl⟩, rfl⟩
    obtain ⟨n1, n2⟩ := m1.retell hb0 (l' := renL (swap1 (r.length + 2)) l0) fun vs hv => hv.ren hre
    have hmem : ((((.ob k0 l0 :: .ob (.gr t q) X :: r : Mem) ++ frees 1).set 1 .dead).set (r.length + 2) (.ob (.gr t q) X)).set 0 (.ob k0 (renL (swap1 (r.length + 2)) l0)) = .ob k0 (renL (swap1 (r.length + 2)) l0) :: .dead :: r ++ [.ob (.gr t q) X] := by
      simp [frees]
    rw [hmem] at n1 n2
    refine ⟨_, fr, w, Steps.refl _ _, ⟨b, a, q1, q2, q3.ext (fun i c q => (m2.blk i c q).1), q4.ext (fun i c q => (m2.blk i c q).1), ⟨fun k => (q5.tm k).mono m2, q5.nt, n1, ?_, q5.glob.mono fun c o p => ⟨p, rfl⟩⟩, q6⟩, (f2.trans m3).trans n2, fun k c' hk hc' => ?_, rfl, rfl, rfl⟩
    · have := q5.fix
      simp only [List.length_append, List.length_cons, List.length_nil] at this ⊢
      omega
    · have h1 : k ≠ r.length + 2 := by
        have := q5.fix
        simp only [List.length_cons] at this
        dsimp only at hk
        omega
      simp [Gh.put, h1, hc']

end
end Go.Am
