/-
  Maps whose keys are integers, strings or bools; comparisons with nil: the operations.
-/
import Derived.Test.YtiphaojaolcidaaDoorAm11a
import Derived.MapKept
namespace Go.Am
open Go.RowKit

section
variable {P : Program} {g : Gh} {m : Mem} {w : World}

theorem plainKey_is {d : TypeDesc} {k : Value} (h : plainKey d k = true) : MapKept.IsKey d k := by
  cases d <;> cases k <;> simp_all [plainKey, MapKept.IsKey]

theorem zeroA_sound {t : TypeId} {z : AV} (h : zeroA P t = some z) : ∃ cz, (∀ w, (zeroValue t).run P w = .ok cz w) ∧ VA g w z cz := by
  unfold zeroA at h
  cases hi : P.info? t with
  | none => simp [hi] at h
  | some i =>
    cases hz : i.zero with
    | none => simp [hi, hz] at h
    | some c =>
      simp only [hi, hz, Option.map_some, Option.some.injEq] at h
      subst h
      exact ⟨c, fun w => by simp [zeroValue, typeInfo, hi, hz], VA.ofV c⟩

/-- What a type assertion tells, of the interface's own type and what is in it. -/
theorem typeAssert_run {t s xt : TypeId} {ok : Bool} {cv : Value} {d : TypeDesc} (hu : P.underlying t = some d) (hni : ∀ ms, d ≠ .interface ms) :
    (Instr.typeAssert (.iface s cv) xt t ok).run P w = (if s = t then (.ok (if ok then .tuple #[cv, .bool true] else cv) w) else
      (do if ok then pure (.tuple #[← zeroValue t, .bool false]) else runtimePanic (.typeAssertion (some xt) (some s) t "") : Sem Value).run P w) := by
  unfold Instr.typeAssert
  simp only [Sem.run_bind, run_underlying hu, Result.andThen_ok]
  cases d <;> first
    | exact absurd rfl (hni _)
    | (by_cases e : s = t <;> simp [e])

theorem assertFin {t xt : TypeId} {d : TypeDesc} {ok : Bool} {v : AV} (hu : P.underlying t = some d) (hni' : ∀ ms, d ≠ .interface ms) (s : TypeId) (u : AV) (cu : Value) (hv : VA g w u cu) (h : (match Nat.beq s t, ok with
    | true, true => some (AV.tup [u, sB true])
    | true, false => some u
    | false, true => (zeroA P t).map fun z => .tup [z, sB false]
    | false, false => none) = some v) : ∃ cv, (Instr.typeAssert (.iface s cu) xt t ok).run P w = .ok cv w ∧ VA g w v cv := by
  rw [typeAssert_run hu hni']
  cases hb : Nat.beq s t with
  | true =>
    have e := Nat.eq_of_beq_eq_true hb
    rw [hb] at h
    rw [if_pos e]
    cases ok with
    | true =>
      simp only [Option.some.injEq] at h; subst h
      exact ⟨_, rfl, VA.tups.2 ⟨hv, .p _ _ (.sc _), trivial⟩⟩
    | false =>
      simp only [Option.some.injEq] at h; subst h
      exact ⟨_, rfl, hv⟩
  | false =>
    have e : s ≠ t := fun e => by subst e; rw [Nat.beq_refl] at hb; cases hb
    rw [hb] at h
    rw [if_neg e]
    cases ok with
    | true =>
      simp only [Option.map_eq_some_iff] at h
      obtain ⟨z, hz, rfl⟩ := h
      obtain ⟨cz, h1, h2⟩ := zeroA_sound (g := g) (w := w) hz
      exact ⟨.tuple #[cz, .bool false], by simp [h1], VA.tups.2 ⟨h2, .p _ _ (.sc _), trivial⟩⟩
    | false => cases h

theorem assertOp_sound {t xt : TypeId} {x v : AV} {cx : Value} {ok : Bool} (he : assertOp P t x ok = some v) (hx : VA g w x cx) : ∃ cv, (Instr.typeAssert cx xt t ok).run P w = .ok cv w ∧ VA g w v cv := by
  unfold assertOp at he
  split at he
  · cases he
  · rename_i d hni hu
    have hni' : ∀ ms, d ≠ .interface ms := fun ms e => hni ms e
    have fin := @assertFin P g w t xt d ok v hu hni'
    split at he
    · cases hx with
      | p _ _ hx => cases hx with
        | sc =>
          split at he
          · rename_i z hz
            simp only [Option.some.injEq] at he; subst he
            obtain ⟨cz, h1, h2⟩ := zeroA_sound (g := g) (w := w) hz
            refine ⟨.tuple #[cz, .bool false], ?_, VA.tups.2 ⟨h2, .p _ _ (.sc _), trivial⟩⟩
            unfold Instr.typeAssert
            simp only [Sem.run_bind, run_underlying hu, Result.andThen_ok]
            cases d <;> first
              | exact absurd rfl (hni' _)
              | simp [h1]
          · cases he
    · cases hx with
      | p _ _ hx => cases hx with
        | ifc _ _ cv h => exact fin _ _ cv (.p _ _ h) he
    · cases hx with
      | ifc _ _ cv h => exact fin _ _ cv h he
    · cases hx with
      | p _ _ hx => cases hx with
        | sc => exact fin _ _ _ (VA.ofV _) he
    · cases he
  · cases he

theorem findA_sound {d : TypeDesc} {k : Value} : ∀ {ks : List Value} {vs : List AV} {bs : List Nat} {cs : List Value} {r : Option AV} (n : Nat), findA d k ks vs bs = some r → VAs g w vs cs →
    match r with
    | some v => ∃ i cv, Instr.findNow d k (entriesOf ks cs bs) n = some (some (i, cv)) ∧ VA g w v cv
    | none => Instr.findNow d k (entriesOf ks cs bs) n = some none
  | [], [], [], [], r, n, h, _ => by
    simp only [findA, Option.some.injEq] at h
    subst h
    rfl
  | k' :: ks, v :: vs, b :: bs, c :: cs, r, n, h, hv => by
    simp only [findA] at h
    simp only [entriesOf, Instr.findNow]
    cases hs : Instr.sameNow d k k' with
    | none => rw [hs] at h; cases h
    | some q =>
      rw [hs] at h
      cases q with
      | true =>
        simp only [Option.some.injEq] at h
        subst h
        exact ⟨n, c, rfl, hv.1⟩
      | false => exact findA_sound (n + 1) h hv.2
  | _, _ :: _, _, [], _, _, _, hv => hv.elim
  | _, [], _, _ :: _, _, _, _, hv => hv.elim
  | _ :: _, [], _, _, _, _, h, _ => by simp [findA] at h
  | [], _ :: _, _, _, _, _, h, _ => by simp [findA] at h
  | [], [], _ :: _, _, _, _, h, _ => by simp [findA] at h
  | _ :: _, _ :: _, [], _, _, _, h, _ => by simp [findA] at h

theorem key_eq {k : Value} {cv : Value} (h : VA g w (.p (.sc k)) cv) : cv = k := by
  rw [VA.pv] at h
  cases h
  rfl

/-- What a map is in the world. -/
theorem mapOf_sound (h : Rel g m w) {x : AV} {cx : Value} (hx : VA g w x cx) {ks : List Value} {vs : List AV} {bs : List Nat} (he : mapOf (fun i => m.getD i .dead) x = some (ks, vs, bs)) :
    ∃ cs, VAs g w vs cs ∧ ((cx = .map none ∧ ks = [] ∧ vs = [] ∧ bs = []) ∨ ∃ r clock, cx = .map (some r) ∧ w.heap[r]? = some (.map (entriesOf ks cs bs).toArray clock)) := by
  unfold mapOf at he
  split at he
  · simp only [Option.some.injEq, Prod.mk.injEq] at he
    obtain ⟨rfl, rfl, rfl⟩ := he
    exact ⟨[], trivial, .inl ⟨key_eq hx, rfl, rfl, rfl⟩⟩
  · rename_i b
    split at he
    · rename_i ks' bs' clock vs' hb
      simp only [Option.some.injEq, Prod.mk.injEq] at he
      obtain ⟨rfl, rfl, rfl⟩ := he
      obtain ⟨c, ob, cs, k1, k2, k3, k4, _⟩ := h.obs b _ _ (getD_some hb (by simp))
      simp only [ObK.is] at k4
      subst k4
      cases hx with
      | vm _ c' hc =>
        rw [k1] at hc; cases hc
        exact ⟨cs, k3, .inr ⟨c, clock, rfl, k2⟩⟩
    · cases he
  · cases he

theorem lookupOp_sound (h : Rel g m w) {x k a : AV} {cx ck : Value} {t : TypeId} {ok : Bool} (hx : VA g w x cx) (hk : VA g w k ck) (he : lookupOp P (fun i => m.getD i .dead) t x k ok = some a) :
    ∃ v, (Instr.lookup t cx ck ok).run P w = .ok v w ∧ VA g w a v := by
  unfold lookupOp at he
  split at he
  · rename_i key
    obtain rfl := key_eq hk
    split at he
    · rename_i kt et hm
      split at he
      · rename_i d z ks vs bs hd hz hmap
        cases hp : plainKey d ck with
        | false => simp [hp] at he
        | true =>
          simp only [hp, cond_true] at he
          have hik := plainKey_is hp
          obtain ⟨cz, hz1, hz2⟩ := zeroA_sound (g := g) (w := w) hz
          obtain ⟨cs, hcs, hwhere⟩ := mapOf_sound h hx hmap
          have hc : ∀ e, (Instr.checkKey e 10000 kt ck).run P w = .ok () w := fun e => MapKept.run_checkKey hd hik e 9999
          have nil0 : entriesOf [] cs [] = [] := by cases cs <;> rfl
          cases hf : findA d ck ks vs bs with
          | none => simp [hf] at he
          | some r =>
            have hs := findA_sound (g := g) (w := w) 0 hf hcs
            cases r with
            | none =>
              simp only [hf, Option.some.injEq] at he
              subst he
              simp only at hs
              have hk := MapKept.run_findKey (w := w) hd hs
              refine ⟨cond ok (.tuple #[cz, .bool false]) cz, ?_, ?_⟩
              · rcases hwhere with ⟨rfl, rfl, rfl, rfl⟩ | ⟨r, clock, rfl, hr⟩
                · rw [nil0] at hk
                  cases ok <;> simp [Instr.lookup, run_underlying hm, hc, hk, hz1, Result.andThen]
                · cases ok <;> simp [Instr.lookup, run_underlying hm, MapKept.run_getObj_map hr, hc, hk, hz1, Result.andThen]
              · cases ok with
                | true => exact VA.tups.2 ⟨hz2, .p _ _ (.sc _), trivial⟩
                | false => exact hz2
            | some u =>
              simp only [hf, Option.some.injEq] at he
              subst he
              obtain ⟨i, cv, hs1, hs2⟩ := hs
              have hk := MapKept.run_findKey (w := w) hd hs1
              refine ⟨cond ok (.tuple #[cv, .bool true]) cv, ?_, ?_⟩
              · rcases hwhere with ⟨rfl, rfl, rfl, rfl⟩ | ⟨r, clock, rfl, hr⟩
                · rw [nil0] at hk
                  cases ok <;> simp [Instr.lookup, run_underlying hm, hc, hk, Result.andThen]
                · cases ok <;> simp [Instr.lookup, run_underlying hm, MapKept.run_getObj_map hr, hc, hk, Result.andThen]
              · cases ok with
                | true => exact VA.tups.2 ⟨hs2, .p _ _ (.sc _), trivial⟩
                | false => exact hs2
      · cases he
    · cases he
  · exact lookupU_sound h hx hk he
  · cases he

theorem updA_sound {d : TypeDesc} {k : Value} {v : AV} {cv : Value} (hik : MapKept.IsKey d k) (hv : VA g w v cv) : ∀ {ks : List Value} {vs : List AV} {bs : List Nat} {cs : List Value} {r : Option (List AV)} (n : Nat), updA d k v ks vs bs = some r → VAs g w vs cs →
    match r with
    | some l => ∃ i o cs', Instr.findNow d k (entriesOf ks cs bs) n = some (some (n + i, o)) ∧ ((entriesOf ks cs bs)[i]?).map (·.key) = some k ∧ (entriesOf ks cs bs).modify i (fun e => { e with key := k, val := cv }) = entriesOf ks cs' bs ∧ VAs g w l cs'
    | none => Instr.findNow d k (entriesOf ks cs bs) n = some none ∧ ks.length = vs.length ∧ bs.length = vs.length
  | [], [], [], [], r, n, h, _ => by
    simp only [updA, Option.some.injEq] at h
    subst h
    exact ⟨rfl, rfl, rfl⟩
  | k' :: ks, u :: vs, b :: bs, c :: cs, r, n, h, hvs => by
    simp only [updA] at h
    simp only [entriesOf, Instr.findNow]
    cases hs : Instr.sameNow d k k' with
    | none => rw [hs] at h; cases h
    | some q =>
      rw [hs] at h
      cases q with
      | true =>
        simp only [Option.some.injEq] at h
        subst h
        have hkk : k' = k := by
          cases d <;> cases k <;> simp only [MapKept.IsKey] at hik <;> cases k' <;> simp only [Instr.sameNow] at hs <;> first
            | cases hs
            | (split at hs
               · rename_i e1; subst e1; simp at hs; subst hs; rfl
               · cases hs)
            | (simp only [Option.some.injEq, MapKept.bytes_beq, beq_iff_eq] at hs; subst hs; rfl)
        subst hkk
        exact ⟨0, c, cv :: cs, rfl, rfl, rfl, hv, hvs.2⟩
      | false =>
        cases hr : updA d k v ks vs bs with
        | none => simp [hr] at h
        | some r' =>
          have ih := updA_sound hik hv (n + 1) hr hvs.2
          cases r' with
          | none =>
            simp only [hr, Option.some.injEq] at h
            subst h
            exact ⟨ih.1, by simp [ih.2.1], by simp [ih.2.2]⟩
          | some l =>
            simp only [hr, Option.some.injEq] at h
            subst h
            obtain ⟨i, o, cs', q1, q2, q3, q4⟩ := ih
            refine ⟨i + 1, o, c :: cs', by rw [q1]; simp; omega, by simpa using q2, ?_, hvs.1, q4⟩
            simp only [List.modify_succ_cons, entriesOf, q3]
  | _, _ :: _, _, [], _, _, _, hv => hv.elim
  | _, [], _, _ :: _, _, _, _, hv => hv.elim
  | _ :: _, [], _, _, _, _, h, _ => by simp [updA] at h
  | [], _ :: _, _, _, _, _, h, _ => by simp [updA] at h
  | [], [], _ :: _, _, _, _, h, _ => by simp [updA] at h
  | _ :: _, _ :: _, [], _, _, _, h, _ => by simp [updA] at h

theorem entriesOf_push {k : Value} {cv : Value} {b : Nat} : ∀ {ks cs : List Value} {bs : List Nat}, ks.length = cs.length → bs.length = cs.length → entriesOf ks cs bs ++ [{ key := k, val := cv, born := b }] = entriesOf (ks ++ [k]) (cs ++ [cv]) (bs ++ [b])
  | [], [], [], _, _ => rfl
  | _ :: ks, _ :: cs, _ :: bs, h, h' => by simp [entriesOf, entriesOf_push (ks := ks) (cs := cs) (bs := bs) (by simpa using h) (by simpa using h')]
  | [], _ :: _, _, h, _ => by simp at h
  | _ :: _, [], _, h, _ => by simp at h
  | [], [], _ :: _, _, h => by simp at h
  | _ :: _, _ :: _, [], _, h => by simp at h

theorem setBlock_world (w : World) {r : Nat} {o' : Obj} {o : Obj} (hb : w.heap[r]? = some o) :
    (∀ k, k ≠ r → ({ w with heap := w.heap.setIfInBounds r o' } : World).heap[k]? = w.heap[k]?) ∧ ({ w with heap := w.heap.setIfInBounds r o' } : World).heap.size = w.heap.size ∧ ({ w with heap := w.heap.setIfInBounds r o' } : World).heap[r]? = some o' :=
  ⟨fun k hk => (MapKept.heap_set hb).2 k hk, by simp, (MapKept.heap_set hb).1⟩

theorem mapUpdateOp_sound (h : Rel g m w) {x k v a : AV} {cx ck cv : Value} {t : TypeId} {us : Upd} (hx : VA g w x cx) (hk : VA g w k ck) (hv : VA g w v cv)
    (he : mapUpdateOp P (fun i => m.getD i .dead) t x k v = some (a, us, true)) :
    ∃ w', (Instr.mapUpdate t cx ck cv).run P w = .ok () w' ∧ a = .tup [] ∧ Rel g (apply m us) w' ∧ Ext g w g w' ∧ Stp g m w g (apply m us) w' := by
  unfold mapUpdateOp at he
  split at he
  · rename_i b key
    obtain rfl := key_eq hk
    split at he
    · rename_i kt et ks bs clock vs hm hb
      split at he
      · rename_i d hd
        cases hp : plainKey d ck with
        | false => simp [hp] at he
        | true =>
          simp only [hp, cond_true] at he
          have hik := plainKey_is hp
          have hib := getD_some hb (by simp)
          obtain ⟨c, ob, cs, k1, k2, k3, k4, _⟩ := h.obs b _ _ hib
          simp only [ObK.is] at k4
          subst k4
          cases hx with
          | vm _ c' hc =>
            rw [k1] at hc; cases hc
            have hcheck : ∀ e, (Instr.checkKey e 10000 kt ck).run P w = .ok () w := fun e => MapKept.run_checkKey hd hik e 9999
            cases hu : updA d ck v ks vs bs with
            | none => simp [hu] at he
            | some r =>
              have hs := updA_sound (g := g) (w := w) hik hv 0 hu k3
              cases r with
              | some l =>
                simp only [hu, Option.some.injEq, Prod.mk.injEq, and_true] at he
                obtain ⟨rfl, rfl⟩ := he
                obtain ⟨i, o, cs', q1, q2, q3, q4⟩ := hs
                rw [Nat.zero_add] at q1
                have hfind := MapKept.run_findKey (w := w) hd q1
                obtain ⟨e1, e2, e3⟩ := setBlock_world w (o' := .map (entriesOf ks cs' bs).toArray clock) k2
                obtain ⟨r1, r2, r3⟩ := h.writeOb (ob' := .map ks bs clock) (l' := l) (vs' := cs') hib k1 e1 e2 rfl rfl rfl e3 rfl q4
                refine ⟨_, ?_, rfl, r1, r2, r3⟩
                have hsame : Instr.sameBits 10000 ck ck = true := by
                  cases d <;> cases ck <;> simp only [MapKept.IsKey] at hik <;> simp [Instr.sameBits, MapKept.bytes_beq]
                have hmod : (entriesOf ks cs bs).toArray.modify i (fun e => { e with key := ck, val := cv }) = (entriesOf ks cs' bs).toArray := by
                  rw [← q3]; simp
                simp [Instr.mapUpdate, run_underlying hm, MapKept.run_getObj_map k2, hcheck, hfind, Instr.keyThatStays, hsame, MapKept.run_setObj_map _ k2, Result.andThen, q2, q3]
              | none =>
                simp only [hu, Option.some.injEq, Prod.mk.injEq, and_true] at he
                obtain ⟨rfl, rfl⟩ := he
                obtain ⟨q1, q2, q3⟩ := hs
                have hlen := k3.len
                have hfind := MapKept.run_findKey (w := w) hd q1
                obtain ⟨e1, e2, e3⟩ := setBlock_world w (o' := .map (entriesOf (ks ++ [ck]) (cs ++ [cv]) (bs ++ [clock])).toArray (clock + 1)) k2
                obtain ⟨r1, r2, r3⟩ := h.writeOb (ob' := .map (ks ++ [ck]) (bs ++ [clock]) (clock + 1)) (l' := vs ++ [v]) (vs' := cs ++ [cv]) hib k1 e1 e2 rfl rfl rfl e3 rfl (k3.append (⟨hv, trivial⟩ : VAs g w [v] [cv]))
                refine ⟨_, ?_, rfl, r1, r2, r3⟩
                have hpush : (entriesOf ks cs bs).toArray.push { key := ck, val := cv, born := clock } = (entriesOf (ks ++ [ck]) (cs ++ [cv]) (bs ++ [clock])).toArray := by
                  rw [← entriesOf_push (by omega) (by omega)]; simp
                simp [Instr.mapUpdate, run_underlying hm, MapKept.run_getObj_map k2, hcheck, hfind, hpush, MapKept.run_setObj_map _ k2, Result.andThen]
      · cases he
    · cases he
  · exact mapUpdateU_sound h hx hk hv he
  · cases he

theorem equal_ptr {t e : TypeId} (hd : P.underlying t = some (.pointer e)) (a : Addr) : (Op.equal t (.pointer (some a)) (.pointer none)).run P w = .ok false w ∧ (Op.equal t (.pointer none) (.pointer (some a))).run P w = .ok false w := by
  refine ⟨?_, ?_⟩
  · show (Op.equalIn (9999 + 1) t _ _).run P w = .ok false w
    rw [Op.equalIn]; simp only [Sem.run_bind, run_underlying hd, Result.andThen_ok]; rfl
  · show (Op.equalIn (9999 + 1) t _ _).run P w = .ok false w
    rw [Op.equalIn]; simp only [Sem.run_bind, run_underlying hd, Result.andThen_ok]; rfl

theorem equal_map {t k e : TypeId} (hd : P.underlying t = some (.map k e)) (a : Nat) : (Op.equal t (.map (some a)) (.map none)).run P w = .ok false w ∧ (Op.equal t (.map none) (.map (some a))).run P w = .ok false w := by
  refine ⟨?_, ?_⟩
  · show (Op.equalIn (9999 + 1) t _ _).run P w = .ok false w
    rw [Op.equalIn]; simp only [Sem.run_bind, run_underlying hd, Result.andThen_ok]; rfl
  · show (Op.equalIn (9999 + 1) t _ _).run P w = .ok false w
    rw [Op.equalIn]; simp only [Sem.run_bind, run_underlying hd, Result.andThen_ok]; rfl

theorem eqGuard_refs (op : BinOp) (t : TypeId) (a b : Operand) : (∀ p q, (eqGuard op t a b (.pointer p) (.pointer q)).run P w = .ok () w) ∧ ∀ p q, (eqGuard op t a b (.map p) (.map q)).run P w = .ok () w := by
  refine ⟨fun p q => ?_, fun p q => ?_⟩ <;> (unfold eqGuard; cases op <;> rfl)

theorem binOp_refs (t : TypeId) {cx cy : Value} (h : (∃ p q, cx = .pointer p ∧ cy = .pointer q) ∨ ∃ p q, cx = .map p ∧ cy = .map q) (op : BinOp) (ho : op = .eql ∨ op = .neq) :
    binOp op t cx cy = (do let r ← Op.equal t cx cy; pure (.bool (if op = .eql then r else !r)) : Sem Value) := by
  rcases h with ⟨p, q, rfl, rfl⟩ | ⟨p, q, rfl, rfl⟩ <;> rcases ho with rfl | rfl <;> rfl

/-- What is compared with nil, and is none. -/
theorem nilOk_refs {d : TypeDesc} {x y : AV} {cx cy : Value} (hx : VA g w x cx) (hy : VA g w y cy) (h : nilOk d x y = true) :
    (∃ e a, d = .pointer e ∧ cx = .pointer (some a) ∧ cy = .pointer none) ∨ ∃ k e a, d = .map k e ∧ cx = .map (some a) ∧ cy = .map none := by
  unfold nilOk at h
  split at h
  · split at h
    · obtain rfl := key_eq hy
      split at h
      · rw [VA.pv] at hx
        cases hx
        exact .inl ⟨_, _, rfl, rfl, rfl⟩
      · cases hx
        exact .inl ⟨_, _, rfl, rfl, rfl⟩
      · cases h
    · cases h
  · split at h
    · obtain rfl := key_eq hy
      split at h
      · cases hx
        exact .inr ⟨_, _, _, rfl, rfl, rfl⟩
      · cases h
    · cases h
  · cases h

theorem nilOp_sound {ρ : Operand → AV} {ρc : Operand → Value} (hr : ∀ x, VA g w (ρ x) (ρc x)) {o : Oper} {op : BinOp} {t yt : TypeId} {x y : Operand} (ho : o.op = .binOp op t x y yt) {a : AV} {us : Upd} {ok : Bool} (he : nilOp P op t (ρ x) (ρ y) = some (a, us, ok)) :
    us = [] ∧ ∃ v, (execOp ρc o).run P w = .ok (.value v) w ∧ VA g w a v := by
  unfold nilOp at he
  split at he
  · rename_i d hd
    have key : nilOk d (ρ x) (ρ y) = true ∨ nilOk d (ρ y) (ρ x) = true → (∀ op' : BinOp, (eqGuard op' t x y (ρc x) (ρc y)).run P w = .ok () w) ∧ (Op.equal t (ρc x) (ρc y)).run P w = .ok false w ∧ ((∃ p q, ρc x = .pointer p ∧ ρc y = .pointer q) ∨ ∃ p q, ρc x = .map p ∧ ρc y = .map q) := by
      rintro (h | h)
      · rcases nilOk_refs (hr x) (hr y) h with ⟨e, a, rfl, e1, e2⟩ | ⟨k, e, a, rfl, e1, e2⟩
        · rw [e1, e2]
          exact ⟨fun op' => (eqGuard_refs op' t x y).1 _ _, (equal_ptr hd _).1, .inl ⟨_, _, rfl, rfl⟩⟩
        · rw [e1, e2]
          exact ⟨fun op' => (eqGuard_refs op' t x y).2 _ _, (equal_map hd _).1, .inr ⟨_, _, rfl, rfl⟩⟩
      · rcases nilOk_refs (hr y) (hr x) h with ⟨e, a, rfl, e1, e2⟩ | ⟨k, e, a, rfl, e1, e2⟩
        · rw [e1, e2]
          exact ⟨fun op' => (eqGuard_refs op' t x y).1 _ _, (equal_ptr hd _).2, .inl ⟨_, _, rfl, rfl⟩⟩
        · rw [e1, e2]
          exact ⟨fun op' => (eqGuard_refs op' t x y).2 _ _, (equal_map hd _).2, .inr ⟨_, _, rfl, rfl⟩⟩
    split at he
    · rename_i hok
      rw [Bool.or_eq_true] at hok
      obtain ⟨k1, k2, k3⟩ := key hok
      simp only [Option.some.injEq, Prod.mk.injEq] at he
      obtain ⟨rfl, rfl, _⟩ := he
      refine ⟨rfl, .bool false, ?_, .p _ _ (.sc _)⟩
      simp only [execOp, ho, Sem.run_bind, k1, Result.andThen_ok, binOp_refs t k3 _ (.inl rfl), k2, Sem.run_pure]
      rfl
    · rename_i hok
      rw [Bool.or_eq_true] at hok
      obtain ⟨k1, k2, k3⟩ := key hok
      simp only [Option.some.injEq, Prod.mk.injEq] at he
      obtain ⟨rfl, rfl, _⟩ := he
      refine ⟨rfl, .bool true, ?_, .p _ _ (.sc _)⟩
      simp only [execOp, ho, Sem.run_bind, k1, Result.andThen_ok, binOp_refs t k3 _ (.inr rfl), k2, Sem.run_pure]
      rfl
    · cases he
  · cases he

end
end Go.Am
