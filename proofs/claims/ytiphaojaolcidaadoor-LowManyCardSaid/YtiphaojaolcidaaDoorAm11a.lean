/-
  Maps whose keys are arrays or structs, up to the order of their entries: the operations.
-/
import Derived.Test.YtiphaojaolcidaaDoorAm11
import Derived.DeepKeys3
import Derived.MapKept
namespace Go.Am
open Go.RowKit

section
variable {P : Program} {g : Gh} {m : Mem} {w : World}

theorem wideT_law {kt : TypeId} (h : wideT P kt = true) : WideMaps.KeyLaw P kt := by
  simp only [wideT, Bool.and_eq_true] at h
  exact deep_law (m := 20) (by omega) h.2.1 h.2.2 h.1

theorem litOf_key {kt : TypeId} {v : Value} {b : List UInt8} (h : litOf P kt v = some b) : keyOf P kt v = some (.string b) := by
  unfold litOf at h
  split at h
  · rename_i s hs
    simp only [Option.some.injEq] at h
    rw [hs, h]
  · cases h

theorem findU_sound {kt : TypeId} (hl : WideMaps.KeyLaw P kt) {x : Value} {b : List UInt8} (hx : litOf P kt x = some b) : ∀ {ks : List Value} {vs r : List AV} {cs : List Value} {bs : List Nat}, findU P kt b ks vs = some r → VAs g w vs cs → bs.length = cs.length →
    (∀ e ∈ entriesOf ks cs bs, ∃ l, keyOf P kt e.key = some l) ∧ (∀ e ∈ entriesOf ks cs bs, e.key = x → ∃ v ∈ r, VA g w v e.val) ∧ ∀ v ∈ r, ∃ e ∈ entriesOf ks cs bs, e.key = x
  | [], [], r, [], [], h, _, _ => by
    simp only [findU, Option.some.injEq] at h
    subst h
    exact ⟨fun e he => by simp [entriesOf] at he, fun e he => by simp [entriesOf] at he, fun v hv => by cases hv⟩
  | k :: ks, v :: vs, r, c :: cs, n :: bs, h, hv, hb => by
    simp only [findU] at h
    split at h
    · rename_i b' r' h1 h2
      simp only [Option.some.injEq] at h
      obtain ⟨i1, i2, i3⟩ := findU_sound hl hx h2 hv.2 (by simpa using hb)
      have hk := litOf_key h1
      have hkx := litOf_key hx
      cases hq : eqBytes b b' with
      | true =>
        rw [hq] at h
        simp only [cond_true] at h
        subst h
        have hbb := eqBytes_eq hq
        subst hbb
        have hkk : k = x := hl.inj hk hkx
        refine ⟨?_, ?_, ?_⟩
        · intro e he
          simp only [entriesOf, List.mem_cons] at he
          rcases he with rfl | he
          · exact ⟨_, hk⟩
          · exact i1 e he
        · intro e he hek
          simp only [entriesOf, List.mem_cons] at he
          rcases he with rfl | he
          · exact ⟨v, .head _, hv.1⟩
          · obtain ⟨u, q1, q2⟩ := i2 e he hek
            exact ⟨u, .tail _ q1, q2⟩
        · intro u _
          exact ⟨_, .head _, hkk⟩
      | false =>
        rw [hq] at h
        simp only [cond_false] at h
        subst h
        refine ⟨?_, ?_, ?_⟩
        · intro e he
          simp only [entriesOf, List.mem_cons] at he
          rcases he with rfl | he
          · exact ⟨_, hk⟩
          · exact i1 e he
        · intro e he hek
          simp only [entriesOf, List.mem_cons] at he
          rcases he with rfl | he
          · exfalso
            have hek : k = x := hek
            subst hek
            rw [hx] at h1
            cases h1
            have : ∀ l : List UInt8, eqBytes l l = true := by
              intro l
              induction l with
              | nil => rfl
              | cons a l ih => simp [eqBytes, ih]
            rw [this] at hq; cases hq
          · exact i2 e he hek
        · intro u hu
          obtain ⟨e, q1, q2⟩ := i3 u hu
          exact ⟨e, .tail _ q1, q2⟩
    · cases h
  | _, _ :: _, _, [], _, _, hv, _ => hv.elim
  | _, [], _, _ :: _, _, _, hv, _ => hv.elim
  | [], _ :: _, _, _ :: _, _, h, _, _ => by simp [findU] at h
  | _ :: _, [], _, [], _, h, _, _ => by simp [findU] at h
  | _, _, _, _ :: _, [], _, _, hb => by simp at hb
  | _, _, _, [], _ :: _, _, _, hb => by simp at hb

theorem findU_len {kt : TypeId} {b : List UInt8} : ∀ {ks : List Value} {vs r : List AV}, findU P kt b ks vs = some r → ks.length = vs.length
  | [], [], _, _ => rfl
  | k :: ks, v :: vs, r, h => by
    simp only [findU] at h
    split at h
    · rename_i h2
      simp [findU_len h2]
    · cases h
  | [], _ :: _, _, h => by simp [findU] at h
  | _ :: _, [], _, h => by simp [findU] at h

theorem insU_sound {kt : TypeId} {b : List UInt8} {key : Value} {v : AV} {cv : Value} {n : Nat} (hv : VA g w v cv) : ∀ {ks : List Value} {us : List AV} {cs : List Value} {bs : List Nat}, VAs g w us cs → ks.length = cs.length → bs.length = cs.length →
    ∃ cs' bs', VAs g w (insU P kt b key v ks us).2 cs' ∧ (insU P kt b key v ks us).1.length = cs'.length ∧ bs'.length = cs'.length ∧
      (entriesOf (insU P kt b key v ks us).1 cs' bs').Perm ({ key := key, val := cv, born := n } :: entriesOf ks cs bs)
  | [], [], [], [], _, _, _ => ⟨[cv], [n], ⟨hv, trivial⟩, rfl, rfl, .refl _⟩
  | k :: ks, u :: us, c :: cs, q :: bs, h, h1, h2 => by
    have front : ∃ cs' bs', VAs g w (v :: u :: us) cs' ∧ (key :: k :: ks).length = cs'.length ∧ bs'.length = cs'.length ∧ (entriesOf (key :: k :: ks) cs' bs').Perm ({ key := key, val := cv, born := n } :: entriesOf (k :: ks) (c :: cs) (q :: bs)) :=
      ⟨cv :: c :: cs, n :: q :: bs, ⟨hv, h⟩, by simpa using h1, by simpa using h2, .refl _⟩
    unfold insU
    split
    · rename_i c' _
      cases ltBytes b c' with
      | true => exact front
      | false =>
        obtain ⟨cs', bs', p1, p2, p3, p4⟩ := insU_sound hv (ks := ks) (us := us) (cs := cs) (bs := bs) h.2 (by simpa using h1) (by simpa using h2)
        refine ⟨c :: cs', q :: bs', ⟨h.1, p1⟩, by simpa using p2, by simpa using p3, ?_⟩
        simp only [cond_false, entriesOf]
        exact (p4.cons _).trans (.swap _ _ _)
    · exact front
  | _, _ :: _, [], _, h, _, _ => h.elim
  | _, [], _ :: _, _, h, _, _ => h.elim
  | [], _ :: _, _ :: _, _, _, h, _ => by simp at h
  | _ :: _, [], [], _, _, h, _ => by simp at h
  | _, _, _ :: _, [], _, _, h => by simp at h
  | _, _, [], _ :: _, _, _, h => by simp at h

theorem umapOf_sound (h : Rel g m w) {x : AV} {cx : Value} (hx : VA g w x cx) {ks : List Value} {vs : List AV} (he : umapOf (fun i => m.getD i .dead) x = some (ks, vs)) :
    ∃ r es clock cs bs, cx = .map (some r) ∧ w.heap[r]? = some (.map es clock) ∧ VAs g w vs cs ∧ ks.length = cs.length ∧ bs.length = cs.length ∧ es.toList.Perm (entriesOf ks cs bs) := by
  unfold umapOf at he
  split at he
  · rename_i b
    split at he
    · rename_i ks' vs' hb
      simp only [Option.some.injEq, Prod.mk.injEq] at he
      obtain ⟨rfl, rfl⟩ := he
      obtain ⟨c, ob, cs, k1, k2, k3, k4, _⟩ := h.obs b _ _ (getD_some hb (by simp))
      simp only [ObK.is] at k4
      obtain ⟨es, clock, bs, rfl, q1, q2, q3⟩ := k4
      cases hx with
      | vm _ c' hc =>
        rw [k1] at hc; cases hc
        exact ⟨c, es, clock, cs, bs, rfl, k2, k3, q1, q2, q3⟩
    · cases he
  · cases he

theorem zeroU_sound {t : TypeId} {z : AV} (h : zeroA P t = some z) : ∃ cz, (∀ w, (zeroValue t).run P w = .ok cz w) ∧ VA g w z cz := by
  unfold zeroA at h
  cases hi : P.info? t with
  | none => simp [hi] at h
  | some i =>
    cases hz : i.zero with
    | none => simp [hi, hz] at h
    | some c =>
      simp only [hi, hz, Option.map_some, Option.some.injEq] at h
      subst h
      exact ⟨c, fun w => by simp [zeroValue, typeInfo, hi, hz], VA.ofV c⟩

theorem lookupU_sound (h : Rel g m w) {x k a : AV} {cx ck : Value} {t : TypeId} {ok : Bool} (hx : VA g w x cx) (hk : VA g w k ck) (he : lookupU P (fun i => m.getD i .dead) t x k ok = some a) :
    ∃ v, (Instr.lookup t cx ck ok).run P w = .ok v w ∧ VA g w a v := by
  unfold lookupU at he
  split at he
  · rename_i key kt et hkey hm
    obtain rfl := toV_eq hkey hk
    split at he
    · rename_i z ks vs b hz hu hb
      cases hw : wideT P kt with
      | false => rw [hw] at he; cases he
      | true =>
        rw [hw] at he
        simp only [cond_true] at he
        have hl := wideT_law hw
        obtain ⟨cz, hz1, hz2⟩ := zeroU_sound (g := g) (w := w) hz
        obtain ⟨r, es, clock, cs, bs, rfl, hr, hcs, e1, e2, e3⟩ := umapOf_sound h hx hu
        have hlk := litOf_key hb
        cases hf : findU P kt b ks vs with
        | none => rw [hf] at he; cases he
        | some l =>
          rw [hf] at he
          obtain ⟨f1, f2, f3⟩ := findU_sound hl hb hf hcs e2
          have hc := hl.check w es.isEmpty hlk
          rcases hl.find w hlk es.toList (fun e he => f1 e (e3.mem_iff.1 he)) with ⟨q1, q2⟩ | ⟨j, e, q1, q2, q3⟩
          · match l, he with
            | [], he =>
              simp only [Option.some.injEq] at he
              subst he
              refine ⟨cond ok (.tuple #[cz, .bool false]) cz, ?_, ?_⟩
              · cases ok <;> simp [Instr.lookup, run_underlying hm, MapKept.run_getObj_map hr, hc, q1, hz1, Result.andThen]
              · cases ok with
                | true => exact VA.tups.2 ⟨hz2, .p _ _ (.sc _), trivial⟩
                | false => exact hz2
            | [v], _ =>
              obtain ⟨e, p1, p2⟩ := f3 v (.head _)
              exact absurd p2 (q2 e (e3.mem_iff.2 p1))
          · have hmem : e ∈ es.toList := List.mem_of_getElem? q2
            obtain ⟨v, p1, p2⟩ := f2 e (e3.mem_iff.1 hmem) q3
            match l, he, p1 with
            | [u], he, p1 =>
              obtain rfl : v = u := by simpa using p1
              simp only [Option.some.injEq] at he
              subst he
              refine ⟨cond ok (.tuple #[e.val, .bool true]) e.val, ?_, ?_⟩
              · cases ok <;> simp [Instr.lookup, run_underlying hm, MapKept.run_getObj_map hr, hc, q1, Result.andThen]
              · cases ok with
                | true => exact VA.tups.2 ⟨p2, .p _ _ (.sc _), trivial⟩
                | false => exact p2
    · cases he
  · cases he

theorem mapUpdateU_sound (h : Rel g m w) {x k v a : AV} {cx ck cv : Value} {t : TypeId} {us : Upd} (hx : VA g w x cx) (hk : VA g w k ck) (hv : VA g w v cv)
    (he : mapUpdateU P (fun i => m.getD i .dead) t x k v = some (a, us, true)) :
    ∃ w', (Instr.mapUpdate t cx ck cv).run P w = .ok () w' ∧ a = .tup [] ∧ Rel g (apply m us) w' ∧ Ext g w g w' ∧ Stp g m w g (apply m us) w' := by
  unfold mapUpdateU at he
  split at he
  · rename_i b key kt et hkey hm
    obtain rfl := toV_eq hkey hk
    split at he
    · rename_i ks vs lb hb hlb
      cases hw : wideT P kt with
      | false => rw [hw] at he; cases he
      | true =>
        rw [hw] at he
        simp only [cond_true] at he
        have hl := wideT_law hw
        split at he
        · rename_i hf
          simp only [Option.some.injEq, Prod.mk.injEq, and_true] at he
          obtain ⟨rfl, rfl⟩ := he
          have hib := getD_some hb (by simp)
          obtain ⟨c, ob, cs, k1, k2, k3, k4, _⟩ := h.obs b _ _ hib
          simp only [ObK.is] at k4
          obtain ⟨es, clock, bs, rfl, e1, e2, e3⟩ := k4
          cases hx with
          | vm _ c' hc =>
            rw [k1] at hc; cases hc
            have hlk := litOf_key hlb
            obtain ⟨f1, f2, f3⟩ := findU_sound hl hlb hf k3 e2
            have hcheck := hl.check w false hlk
            rcases hl.find w hlk es.toList (fun e he => f1 e (e3.mem_iff.1 he)) with ⟨q1, q2⟩ | ⟨j, e, q1, q2, q3⟩
            · obtain ⟨cs', bs', p1, p2, p3, p4⟩ := insU_sound (P := P) (kt := kt) (b := lb) (key := ck) (n := clock) hv (ks := ks) (us := vs) (cs := cs) (bs := bs) k3 e1 e2
              obtain ⟨s1, s2, s3⟩ : (∀ j, j ≠ c → ({ w with heap := w.heap.setIfInBounds c (.map (es.push { key := ck, val := cv, born := clock }) (clock + 1)) } : World).heap[j]? = w.heap[j]?) ∧
                  ({ w with heap := w.heap.setIfInBounds c (.map (es.push { key := ck, val := cv, born := clock }) (clock + 1)) } : World).heap.size = w.heap.size ∧
                  ({ w with heap := w.heap.setIfInBounds c (.map (es.push { key := ck, val := cv, born := clock }) (clock + 1)) } : World).heap[c]? = some (.map (es.push { key := ck, val := cv, born := clock }) (clock + 1)) :=
                ⟨fun j hj => (MapKept.heap_set k2).2 j hj, by simp, (MapKept.heap_set k2).1⟩
              obtain ⟨r1, r2, r3⟩ := h.writeOb (ob' := .umap (insU P kt lb ck v ks vs).1) (l' := (insU P kt lb ck v ks vs).2) (vs' := cs') hib k1 s1 s2 rfl rfl rfl s3
                ⟨_, _, bs', rfl, p2, p3, by
                  rw [Array.toList_push]
                  exact (List.perm_append_comm.trans ((e3.cons _).trans p4.symm))⟩ p1
              refine ⟨_, ?_, rfl, r1, r2, r3⟩
              simp [Instr.mapUpdate, run_underlying hm, MapKept.run_getObj_map k2, hcheck, q1, MapKept.run_setObj_map _ k2, Result.andThen]
            · obtain ⟨v', p1, _⟩ := f2 e (e3.mem_iff.1 (List.mem_of_getElem? q2)) q3
              cases p1
        · cases he
    · cases he
  · cases he

end
end Go.Am
