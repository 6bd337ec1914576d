/-
  Calls that are handed more than they look at: blocks that they do not know of; lists with the right to their room; empty lists that are nil.
-/
import Derived.Test.YtiphaojaolcidaaDoorAm24
import Derived.Test.YtiphaojaolcidaaDoorAm20
namespace Go.Am
open Go.RowKit

/-- What one value tells, the other tells, too. -/
def Ple (x y : PV) : Prop := ∀ (g : Gh) (w : World) (v : Value), VP g w x v → VP g w y v

theorem Ple.refl (x : PV) : Ple x x := fun _ _ _ h => h

theorem Ple.nil {k : Nat} : Ple (.ps 0 0 []) (.ps 0 k []) := fun g w v h => by
  cases h with
  | ps _ _ _ b o cap f hl hc hz hp hv => omega
  | psE _ a cap hz =>
    rcases hz with hz | ⟨rfl, rfl⟩
    · omega
    · exact .psE _ _ _ (.inr ⟨rfl, rfl⟩)

/-- Lists, element by element. -/
def PleL (l m : List PV) : Prop := All2 Ple l m

theorem PleL.refl : ∀ l : List PV, PleL l l
  | [] => trivial
  | x :: l => ⟨.refl x, PleL.refl l⟩

theorem PleL.append : ∀ {l m l' m' : List PV}, PleL l m → PleL l' m' → PleL (l ++ l') (m ++ m')
  | [], [], _, _, _, k => k
  | _ :: _, _ :: _, _, _, h, k => ⟨h.1, PleL.append h.2 k⟩
  | [], _ :: _, _, _, h, _ => h.elim
  | _ :: _, [], _, _, h, _ => h.elim

theorem Ple.ps {n z : Nat} {l m : List PV} (h : PleL l m) : Ple (.ps n z l) (.ps n z m) := fun g w v hv => by
  have hlen : l.length = m.length := All2.len h
  cases hv with
  | ps _ _ _ b o cap f hl hc hz hp hv =>
    exact .ps n z m b o cap f (hlen ▸ hl) hc hz (fun k hk => hp k (by omega)) fun k hk => All2.get h k (by omega) hk g w _ (hv k (by omega))
  | psE _ a cap hz =>
    cases m with
    | nil => exact .psE _ _ _ hz
    | cons _ _ => cases hlen

/-- What one value tells, the other tells, too: where the call's blocks are taken away. -/
def Ale (a b : AV) : Prop := ∀ (g : Gh) (w : World) (v : Value), VA g w a v → VA (g.pack []) w b v

theorem VP.packed {g : Gh} {w : World} {x : PV} {v : Value} (h : VP g w x v) : VP (g.pack []) w x v := h.pureEq (Renames.pack g []).pure

theorem Ale.p {x y : PV} (h : Ple x y) : Ale (.p x) (.p y) := fun g w v hv => by
  cases hv with
  | p _ _ hv => exact .p _ _ (h _ _ _ hv).packed

theorem Ale.os {tok : Option Nat} {n z : Nat} {cs : List PV} {y : PV} (h : Ple (.ps n z cs) y) : Ale (.os tok n z cs) (.p y) := fun g w v hv => by
  cases hv with
  | os _ _ _ _ a cap hv _ => exact .p _ _ (h _ _ _ hv).packed

section
variable {P : Program} {E : Env}

/-- A call that looks at none of the blocks, of values that tell more. -/
theorem Does.lent {f : FuncId} {args args' : List AV} {v : AV} {m m1 : Mem} (h : Does P E f args' [] v m1) (ha : All2 Ale args args') : Does P E f args m (ren (backIdx [] m.length) v) (m ++ m1.map (renB (backIdx [] m.length))) := by
  obtain ⟨hf, h⟩ := h
  refine ⟨hf, fun g w cargs cs hr hv hg => ?_⟩
  obtain ⟨hp, _⟩ := hr.pack (ord := []) List.nodup_nil
  have hva : VAs (g.pack []) w args' cargs.toList := by
    have key : ∀ (l l' : List AV) (vs : List Value), All2 Ale l l' → VAs g w l vs → VAs (g.pack []) w l' vs := by
      intro l
      induction l with
      | nil => intro l' vs h1 h2; cases l' <;> cases vs <;> first | trivial | exact h1.elim | exact h2.elim
      | cons a l ih =>
        intro l' vs h1 h2
        cases l' with
        | nil => exact h1.elim
        | cons b l' => cases vs with
          | nil => exact h2.elim
          | cons x vs => exact ⟨h1.1 g w x h2.1, ih l' vs h1.2 h2.2⟩
    exact key _ _ _ ha hv
  obtain ⟨w', g1, cv, fr, h1, h2, h3, h4, h5, h6, h7, h8⟩ := h (g.pack []) w cargs cs hp hva (hg.mono fun c o q => ⟨q, rfl⟩)
  obtain ⟨r1, r2, r3, r4⟩ := hr.back (ord := []) List.nodup_nil (fun i hi => by cases hi) h5 h6 (fun k c hk => by simp at hk) (Nat.zero_le _)
  exact ⟨w', _, cv, fr, h1, h2, h3, h4.ren r4, r1, r3, fun k c _ hc => r2.blk k c hc, by rw [List.length_append]; omega⟩

/-- An environment that knows more. -/
theorem Does.env {E' : Env} {f : FuncId} {args : List AV} {v : AV} {m m' : Mem} (h : Does P E f args m v m') (he : ∀ i cs, E.glob i = some cs → E'.glob i = some cs) : Does P E' f args m v m' :=
  ⟨h.1, fun g w cargs cs hr ha hg => h.2 g w cargs cs hr ha fun i c hi => hg i c (he i c hi)⟩

end
end Go.Am
