/-
  Each operation that is no call of a function: what the executor tells is what the model does.
-/
import Derived.Test.YtiphaojaolcidaaDoorAm11d
import Derived.WideMake
namespace Go.Am
open Go.RowKit

section ops
variable {P : Program} {g : Gh} {m : Mem} {w : World}

theorem parts_sound {ρ : Operand → AV} {ρc : Operand → Value} (hr : ∀ x, VA g w (ρ x) (ρc x)) : ∀ (l : List (Nat × Operand)),
    All2 (fun a b => a.1 = b.1 ∧ VA g w a.2 b.2) (l.map fun q => (q.1, ρ q.2)) (l.map fun (i, x) => (i, ρc x))
  | [] => trivial
  | (_, x) :: l => ⟨⟨rfl, hr x⟩, parts_sound hr l⟩

theorem maps_sound {ρ : Operand → AV} {ρc : Operand → Value} (hr : ∀ x, VA g w (ρ x) (ρc x)) : ∀ (l : List Operand), VAs g w (l.map ρ) (l.map ρc)
  | [] => trivial
  | x :: l => ⟨hr x, maps_sound hr l⟩

theorem OpOk.of {h : Rel g m w} {s : Sem Value} {r : Result Next} {a : AV} (hr : r = (s.run P w).andThen fun v w' => .ok (.value v) w') (hs : ∃ v, s.run P w = .ok v w ∧ VA g w a v) : OpOk g m w r a m := by
  obtain ⟨v, h1, h2⟩ := hs
  exact OpOk.quiet h (by rw [hr, h1]; rfl) h2

theorem noUpd_eq {r : Option AV} {a : AV} {us : Upd} {ok : Bool} (h : noUpd r = some (a, us, ok)) : r = some a ∧ us = [] := by
  simp only [noUpd, Option.map_eq_some_iff, Prod.mk.injEq] at h
  obtain ⟨v, h1, rfl, rfl, _⟩ := h
  exact ⟨h1, rfl⟩

theorem okUpd_eq {r : Option (AV × Bool)} {a : AV} {us : Upd} {ok : Bool} (h : okUpd r = some (a, us, ok)) : r = some (a, ok) ∧ us = [] := by
  simp only [okUpd, Option.map_eq_some_iff, Prod.mk.injEq] at h
  obtain ⟨⟨v, b⟩, h1, rfl, rfl, rfl⟩ := h
  exact ⟨h1, rfl⟩

theorem rangeOp_sound (h : Rel g m w) {ρc : Operand → Value} {o : Oper} {nid : Nat} (hn : m[nid]? = some .free) {t : TypeId} {x : Operand} {ax a : AV} {us : Upd} (hx : VA g w ax (ρc x)) (ho : o.op = .range t x)
    (he : rangeOp P nid t ax = some (a, us, true)) : OpOk g m w ((execOp ρc o).run P w) a (apply m us) := by
  unfold rangeOp at he
  split at he
  · rename_i s hd
    simp only [Option.some.injEq, Prod.mk.injEq, and_true] at he
    obtain ⟨rfl, rfl⟩ := he
    rw [VA.pv] at hx
    generalize hz : ρc x = z at hx
    cases hx
    obtain ⟨h1, h2, h3⟩ := h.allocOb (ob := .iter s 0) (l := []) (vs := []) hn trivial (grew_alloc w (.stringIter s 0)) ⟨rfl, rfl⟩
    refine ⟨.pointer (some ⟨w.heap.size, 0, none⟩), _, _, .inl ?_, .mp nid 0 _ (by simp [Gh.put]), h1, h2, h3⟩
    simp [execOp, ho, hz, Instr.range, Sem.run_bind, run_underlying hd, Result.andThen]
  · cases he

theorem nextOp_sound (h : Rel g m w) {ρc : Operand → Value} {o : Oper} {x : Operand} {s : Bool} {ax a : AV} {us : Upd} (hx : VA g w ax (ρc x)) (ho : o.op = .next x s)
    (he : nextOp (fun i => m.getD i .dead) ax s = some (a, us, true)) : OpOk g m w ((execOp ρc o).run P w) a (apply m us) := by
  cases s with
  | false => cases he
  | true =>
    simp only [nextOp] at he
    split at he
    · rename_i b
      split at he
      · rename_i str pos l hb
        have hib := getD_some hb (by simp)
        obtain ⟨c, ob, vs, k1, k2, k3, k4, _⟩ := h.obs b _ _ hib
        obtain ⟨rfl, rfl⟩ := k4
        generalize hz : ρc x = z at hx
        cases hx with
        | mp _ _ c' hc =>
          rw [k1] at hc; cases hc
          have hget : (getObj c).run P w = .ok (.stringIter str pos) w := by simp [getObj, Sem.run, k2]
          split at he
          · rename_i hlt
            rw [Nat.blt_eq] at hlt
            generalize hdec : Utf8.decode str pos = q at he
            obtain ⟨cc, width⟩ := q
            simp only [Option.some.injEq, Prod.mk.injEq, and_true] at he
            obtain ⟨rfl, rfl⟩ := he
            obtain ⟨e1, e2, e3⟩ := setBlock_world w (o' := .stringIter str (pos + width)) k2
            obtain ⟨r1, r2, r3⟩ := h.writeOb (ob' := .iter str (pos + width)) (l' := []) (vs' := []) hib k1 e1 e2 rfl rfl rfl e3 ⟨rfl, rfl⟩ trivial
            have hset : (setObj c (.stringIter str (pos + width))).run P w = .ok () { w with heap := w.heap.setIfInBounds c (.stringIter str (pos + width)) } := by simp [setObj, Sem.run, k2]
            refine ⟨.tuple #[.bool true, goInt pos, .int .i32 cc], _, g, .inl ?_, VA.tups.2 ⟨.p _ _ (.sc _), .p _ _ (.sc _), .p _ _ (.sc _), trivial⟩, r1, r2, r3⟩
            simp only [execOp, ho, hz, Instr.next, Sem.run_bind, hget, Result.andThen_ok, hlt, if_true, hdec, hset, Sem.run_pure]
          · rename_i hlt
            have hlt' : ¬ pos < str.size := fun q => by rw [← Nat.blt_eq] at q; rw [q] at hlt; cases hlt
            simp only [Option.some.injEq, Prod.mk.injEq, and_true] at he
            obtain ⟨rfl, rfl⟩ := he
            refine OpOk.quiet h (v := .tuple #[.bool false]) ?_ (VA.tups.2 ⟨.p _ _ (.sc _), trivial⟩)
            simp only [execOp, ho, hz, Instr.next, Sem.run_bind, hget, Result.andThen_ok, hlt', if_false, Sem.run_pure]
      · cases he
    · cases he

theorem slNilOp_sound {ρ : Operand → AV} {ρc : Operand → Value} (hr : ∀ x, VA g w (ρ x) (ρc x)) {o : Oper} {op : BinOp} {t yt : TypeId} {x y : Operand} {l c : Nat} (hy : ρc y = .slice none l c) (ho : o.op = .binOp op t x y yt) {a : AV} {us : Upd} {ok : Bool} (he : slNilOp P op t (ρ x) = some (a, us, ok)) :
    us = [] ∧ ∃ v, (execOp ρc o).run P w = .ok (.value v) w ∧ VA g w a v := by
  unfold slNilOp at he
  split at he
  · rename_i e hd
    have key : ∀ {b : Bool}, slNil (ρ x) = some b → (∀ op' : BinOp, (eqGuard op' t x y (ρc x) (ρc y)).run P w = .ok () w) ∧ (Op.equal t (ρc x) (ρc y)).run P w = .ok b w ∧ ∀ op', op' = .eql ∨ op' = .neq → binOp op' t (ρc x) (ρc y) = (do let r ← Op.equal t (ρc x) (ρc y); pure (.bool (if op' = .eql then r else !r)) : Sem Value) := by
      intro b hb
      obtain ⟨ad, len, cap, hx, hn⟩ := slNil_sound (hr x) hb
      rw [hx, hy]
      refine ⟨fun op' => by unfold eqGuard; cases op' <;> rfl, ?_, fun op' hop => by rcases hop with rfl | rfl <;> rfl⟩
      show (Op.equalIn (9999 + 1) t _ _).run P w = .ok b w
      rw [Op.equalIn]; simp only [Sem.run_bind, run_underlying hd, Result.andThen_ok]
      subst hn
      cases ad <;> rfl
    split at he
    · rename_i b hb
      obtain ⟨k1, k2, k3⟩ := key hb
      simp only [Option.some.injEq, Prod.mk.injEq] at he
      obtain ⟨rfl, rfl, _⟩ := he
      refine ⟨rfl, .bool b, ?_, .p _ _ (.sc _)⟩
      simp only [execOp, ho, Sem.run_bind, k1, Result.andThen_ok, k3 _ (.inl rfl), k2, Sem.run_pure]
      rfl
    · rename_i b hb
      obtain ⟨k1, k2, k3⟩ := key hb
      simp only [Option.some.injEq, Prod.mk.injEq] at he
      obtain ⟨rfl, rfl, _⟩ := he
      refine ⟨rfl, .bool (!b), ?_, .p _ _ (.sc _)⟩
      simp only [execOp, ho, Sem.run_bind, k1, Result.andThen_ok, k3 _ (.inr rfl), k2, Sem.run_pure]
      rfl
    · cases he
  · cases he

theorem min_if (x y : Int) : (if y < x then y else x) = min x y := by
  rcases Int.lt_or_le y x with h | h
  · rw [if_pos h]; omega
  · rw [if_neg (by omega)]; omega

theorem max_if (x y : Int) : (if y > x then y else x) = max x y := by
  rcases Int.lt_or_le x y with h | h
  · rw [if_pos h]; omega
  · rw [if_neg (by omega)]; omega

theorem mmOp_args {ρ : Operand → AV} {ρc : Operand → Value} (hr : ∀ x, VA g w (ρ x) (ρc x)) {mn : Bool} {l : List Operand} {v : AV} (h : mmOp mn (l.map ρ) = some v) :
    ∃ cx cy k k' x y, l = [cx, cy] ∧ ρc cx = .int k x ∧ ρc cy = .int k' y ∧ v = .p (.sc (.int k (cond mn (min x y) (max x y)))) := by
  match l, h with
  | [cx, cy], h =>
    have h1 := hr cx
    have h2 := hr cy
    simp only [List.map_cons, List.map_nil] at h
    generalize ρ cx = ax at h h1
    generalize ρ cy = ay at h h2
    unfold mmOp at h
    split at h
    · rename_i k a k' b heq
      simp only [List.cons.injEq, and_true] at heq
      obtain ⟨rfl, rfl⟩ := heq
      simp only [Option.some.injEq] at h
      rw [VA.pv] at h1 h2
      generalize hc1 : ρc cx = c1 at h1
      generalize hc2 : ρc cy = c2 at h2
      cases h1; cases h2
      exact ⟨cx, cy, k, k', a, b, rfl, hc1, hc2, h.symm⟩
    · cases h
  | [], h => simp [mmOp] at h
  | [_], h => simp [mmOp] at h
  | _ :: _ :: _ :: _, h => simp [mmOp] at h

theorem op1_sound (h : Rel g m w) {ρ : Operand → AV} {ρc : Operand → Value} (hr : ∀ x, VA g w (ρ x) (ρc x)) (hrc : ∀ v, ρc (.const v) = v) {o : Oper} {nid : Nat} (hn : makes o = true → m[nid]? = some .free) {wr : Bool} {a : AV} {us : Upd}
    (he : op1 P (fun i => m.getD i .dead) wr nid ρ o = some (a, us, true)) : OpOk g m w ((execOp ρc o).run P w) a (apply m us) := by
  have he' : ∀ y, nilLit y = true → ∃ l c, ρc y = .slice none l c := by
    intro y hy
    unfold nilLit at hy
    split at hy
    · exact ⟨_, _, hrc _⟩
    · cases hy
  have hmk : ∀ {b : Bool}, makes o = b → b = true → m[nid]? = some .free := fun e e' => hn (e.trans e')
  unfold op1 at he
  split at he
  · rename_i x ho
    simp only [Option.some.injEq, Prod.mk.injEq, and_true] at he
    obtain ⟨rfl, rfl⟩ := he
    exact OpOk.quiet h (v := ρc x) (by simp [execOp, ho]) (hr x)
  · rename_i x ho
    simp only [Option.some.injEq, Prod.mk.injEq, and_true] at he
    obtain ⟨rfl, rfl⟩ := he
    exact OpOk.quiet h (v := ρc x) (by simp [execOp, ho]) (hr x)
  · rename_i c x y ho
    split at he
    · rename_i t hc
      simp only [Option.some.injEq, Prod.mk.injEq, and_true] at he
      obtain ⟨rfl, rfl⟩ := he
      have hb : ρc c = .bool t := by have := hr c; rw [hc, VA.pv] at this; generalize ρc c = z at this; cases this; rfl
      cases t
      · exact OpOk.quiet h (v := ρc y) (by simp [execOp, ho, hb, asBool]) (hr y)
      · exact OpOk.quiet h (v := ρc x) (by simp [execOp, ho, hb, asBool]) (hr x)
    · cases he
  · rename_i t ho
    split at he
    · exact allocWOp_sound h (hmk (by simp only [makes, ho]) rfl) he ho
    · exact allocOp_sound h (hmk (by simp only [makes, ho]) rfl) he (ty := 0) (pos := "") ho rfl rfl
  · rename_i t x ho
    exact boxOp_sound h (hmk (by simp only [makes, ho]) rfl) (hr x) he (t := t) (by simp [execOp, ho, Instr.box, newVar, newRow])
  · rename_i t parts ho
    obtain ⟨h1, rfl⟩ := okUpd_eq he
    refine OpOk.of (h := h) (s := Instr.build t (parts.map fun (i, x) => (i, ρc x))) (P := P) (by simp only [execOp, ho, Sem.run_bind, Sem.run_pure]) (buildOp_sound h1 ?_)
    rw [Array.toList_map]; exact parts_sound hr parts.toList
  · rename_i t len parts ho
    have := buildSliceOp_sound (cparts := parts.map fun (i, x) => (i, ρc x)) h (hmk (by simp only [makes, ho]) rfl) he (by rw [Array.toList_map]; exact parts_sound hr parts.toList)
    simpa only [execOp, ho] using this
  · rename_i t x ho
    obtain ⟨h1, rfl⟩ := okUpd_eq he
    obtain ⟨c, o', cv, k1, k2, k3⟩ := loadOp_sound h (hr x) h1
    exact OpOk.quiet h (v := cv) (by simp [execOp, ho, Instr.loadAt, k1, Instr.sureAddr, k2]) k3
  · rename_i t x v ho
    obtain ⟨w', k1, rfl, k2, k3, k4⟩ := storeOp_sound h (hr x) (hr v) he
    exact ⟨undef, w', g, .inr ⟨by simp [execOp, ho, k1], rfl⟩, VA.tups.2 trivial, k2, k3, k4⟩
  · rename_i x ho
    obtain ⟨h1, rfl⟩ := noUpd_eq he
    obtain ⟨v, k1, k2⟩ := nilCheckOp_sound hr ho h1
    exact OpOk.quiet h k1 k2
  · rename_i op t x y yt ho
    split at he
    · rename_i hy
      obtain ⟨l, c, hyc⟩ := he' y hy
      obtain ⟨rfl, v, k1, k2⟩ := slNilOp_sound hr hyc ho he
      exact OpOk.quiet h k1 k2
    · split at he
      · obtain ⟨rfl, v, k1, k2⟩ := nilOp_sound hr ho he
        exact OpOk.quiet h k1 k2
      · split at he
        · rename_i hsame
          obtain ⟨rfl, v, k1, k2⟩ := samePtrOp_sound hr ho hsame he
          exact OpOk.quiet h k1 k2
        · obtain ⟨h1, rfl⟩ := okUpd_eq he
          obtain ⟨v, k1, k2⟩ := binOpOp_sound hr ho h1
          exact OpOk.quiet h k1 k2
  · rename_i t x ho
    exact rangeOp_sound h (hmk (by simp only [makes, ho]) rfl) (hr x) ho he
  · rename_i x s ho
    exact nextOp_sound h (hr x) ho he
  · rename_i t ho
    have fin : ∀ ob : ObK, ob.is (.map #[] 0) [] → ob.room (.map #[] 0) 0 → some (AV.vm nid, [(nid, Blk.ob ob [])], true) = some (a, us, true) → OpOk g m w ((execOp ρc o).run P w) a (apply m us) := by
      intro ob hob hroom he
      simp only [Option.some.injEq, Prod.mk.injEq, and_true] at he
      obtain ⟨rfl, rfl⟩ := he
      obtain ⟨h1, h2, h3⟩ := h.allocOb (ob := ob) (l := []) (vs := []) (hmk (by simp only [makes, ho]) rfl) trivial (grew_alloc w (.map #[] 0)) hob hroom
      exact ⟨.map (some w.heap.size), _, _, .inl (by simp [execOp, ho, run_makeMap_plain, Result.andThen]), .vm nid _ (by simp [Gh.put]), h1, h2, h3⟩
    unfold makeMapOp at he
    split at he
    · split at he
      · exact fin (.umap []) ⟨_, _, [], rfl, rfl, rfl, .refl _⟩ trivial he
      · exact fin (.map [] [] 0) rfl trivial he
    · exact fin (.map [] [] 0) rfl trivial he
  · rename_i t x i ok ho
    obtain ⟨h1, rfl⟩ := noUpd_eq he
    exact OpOk.of (h := h) (s := Instr.lookup t (ρc x) (ρc i) ok) (P := P) (by simp only [execOp, ho, Sem.run_bind, Sem.run_pure]) (lookupOp_sound h (hr x) (hr i) h1)
  · rename_i t x k v ho
    obtain ⟨w', k1, rfl, k2, k3, k4⟩ := mapUpdateOp_sound h (hr x) (hr k) (hr v) he
    exact ⟨undef, w', g, .inr ⟨by simp [execOp, ho, k1], rfl⟩, VA.tups.2 trivial, k2, k3, k4⟩
  · rename_i t x k v ho
    obtain ⟨w', k1, rfl, k2, k3, k4⟩ := mapUpdateOp_sound h (hr x) (hr k) (hr v) he
    exact ⟨undef, w', g, .inr ⟨by simp [execOp, ho, k1], rfl⟩, VA.tups.2 trivial, k2, k3, k4⟩
  · rename_i op t x ho
    obtain ⟨h1, rfl⟩ := okUpd_eq he
    obtain ⟨v, k1, k2⟩ := unOpOp_sound hr ho h1
    exact OpOk.quiet h k1 k2
  · rename_i src dst x ho
    exact convertOp_sound h (hmk (by simp only [makes, ho]) rfl) hr ho he
  · rename_i t x ho
    obtain ⟨h1, rfl⟩ := noUpd_eq he
    exact OpOk.of (h := h) (s := Instr.makeInterface t (ρc x)) (P := P) (by simp only [execOp, ho, Sem.run_bind, Sem.run_pure]) (makeIfaceOp_sound h1 (hr x))
  · rename_i f first captured ho
    simp only [Option.some.injEq, Prod.mk.injEq, and_true] at he
    obtain ⟨rfl, rfl⟩ := he
    refine OpOk.quiet h (v := .func f (first.map ρc) (captured.map ρc)) (by simp [execOp, ho, Instr.makeFunc]) (VA.fns.2 ⟨_, _, rfl, ?_, ?_⟩)
    · rw [Array.toList_map]; exact maps_sound hr _
    · rw [Array.toList_map]; exact maps_sound hr _
  · rename_i t l c ho
    split at he
    · have := makePureOp_sound h (hr l) (hr c) he
      simpa only [execOp, ho] using this
    · have := makeSliceOp_sound h (hmk (by simp only [makes, ho]) rfl) (hr l) (hr c) he
      simpa only [execOp, ho] using this
  · rename_i t x lo hi mx ho
    obtain ⟨h1, rfl⟩ := okUpd_eq he
    exact OpOk.of (h := h) (s := Instr.sliceAt t (ρc x) (lo.map ρc) (hi.map ρc) (mx.map ρc)) (P := P) (by simp only [execOp, ho, Sem.run_bind, Sem.run_pure]) (sliceOp_sound hr h1 (hr x))
  · rename_i t x f ho
    obtain ⟨h1, rfl⟩ := noUpd_eq he
    exact OpOk.of (h := h) (s := Instr.fieldAt t (ρc x) f) (P := P) (by simp only [execOp, ho, Sem.run_bind, Sem.run_pure]) (fieldAddrOp_sound h1 (hr x))
  · rename_i t x f ho
    obtain ⟨h1, rfl⟩ := okUpd_eq he
    exact OpOk.of (h := h) (s := Instr.field t (ρc x) f) (P := P) (by simp only [execOp, ho, Sem.run_bind, Sem.run_pure]) (fieldOp_sound h1 (hr x))
  · rename_i t x i ho
    obtain ⟨h1, rfl⟩ := okUpd_eq he
    exact OpOk.of (h := h) (s := Instr.indexAt t (ρc x) (ρc i)) (P := P) (by simp only [execOp, ho, Sem.run_bind, Sem.run_pure]) (indexAddrOp_sound h1 (hr x) (hr i))
  · rename_i t x i ho
    obtain ⟨h1, rfl⟩ := okUpd_eq he
    exact OpOk.of (h := h) (s := Instr.index t (ρc x) (ρc i)) (P := P) (by simp only [execOp, ho, Sem.run_bind, Sem.run_pure]) (indexOp_sound h1 (hr x) (hr i))
  · rename_i x i ho
    split at he
    · rename_i vs hx
      obtain ⟨h1, rfl⟩ := noUpd_eq he
      have hv := hr x
      rw [hx] at hv
      generalize hz : ρc x = z at hv
      cases hv with
      | tup _ cs hl hh =>
        obtain ⟨b, hb, hv⟩ := All2.get? (All2.of_get hl hh) h1
        exact OpOk.quiet h (v := b) (by simp only [execOp, ho, hz, Instr.extract]; simp at hb; simp [hb]) hv
    · cases he
  · rename_i x xt t ok ho
    obtain ⟨h1, rfl⟩ := noUpd_eq he
    obtain ⟨cv, k1, k2⟩ := assertOp_sound (xt := xt) h1 (hr x)
    exact OpOk.quiet h (v := cv) (by simp only [execOp, ho, Sem.run_bind, k1, Result.andThen_ok, Sem.run_pure]) k2
  · rename_i c ho
    split at he
    · rename_i s x hc ha
      have harr : c.args = #[s, x] := by have := congrArg List.toArray ha; simpa using this
      have hmk' : makes o = true := by simp only [makes, ho, hc]
      split at he
      · have := appendMs_sound (ty := o.type) h (hn hmk') (nilSl_sound (hr s)) (hr x) he
        simpa only [execOp, ho, resolve, hc, harr, Sem.run_bind, Sem.run_pure, Result.andThen_ok, invoke, builtin, List.map_toArray, List.map_cons, List.map_nil] using this
      · have := appendOp_sound (ty := o.type) h (hn hmk') (nilSl_sound (hr s)) (hr x) he
        simpa only [execOp, ho, resolve, hc, harr, Sem.run_bind, Sem.run_pure, Result.andThen_ok, invoke, builtin, List.map_toArray, List.map_cons, List.map_nil] using this
    · rename_i d s hc ha
      have harr : c.args = #[d, s] := by have := congrArg List.toArray ha; simpa using this
      have := copyOp_sound (ty := o.type) h (hr d) (hr s) he
      simpa only [execOp, ho, resolve, hc, harr, Sem.run_bind, Sem.run_pure, Result.andThen_ok, invoke, builtin, List.map_toArray, List.map_cons, List.map_nil] using this
    · rename_i x hc ha
      have harr : c.args = #[x] := by have := congrArg List.toArray ha; simpa using this
      obtain ⟨h1, rfl⟩ := noUpd_eq he
      refine OpOk.of (h := h) (s := Builtin.len_ c.argTypes o.type #[ρc x]) (P := P) ?_ (lenOp_sound h1 (hr x))
      simp only [execOp, ho, resolve, hc, harr, Sem.run_bind, Sem.run_pure, Result.andThen_ok, invoke, builtin, List.map_toArray, List.map_cons, List.map_nil]
    · rename_i x hc ha
      have harr : c.args = #[x] := by have := congrArg List.toArray ha; simpa using this
      obtain ⟨rfl, v, k1, k2⟩ := sliceDataOp_sound (P := P) (ts := c.argTypes) (ty := o.type) (hr x) he
      refine OpOk.quiet h (v := v) ?_ k2
      simp only [execOp, ho, resolve, hc, harr, Sem.run_bind, Sem.run_pure, Result.andThen_ok, invoke, builtin, List.map_toArray, List.map_cons, List.map_nil, k1]
    · rename_i x n hc ha
      have harr : c.args = #[x, n] := by have := congrArg List.toArray ha; simpa using this
      have := unsafeStringOp_sound (ty := o.type) h (hr x) (hr n) he
      simpa only [execOp, ho, resolve, hc, harr, Sem.run_bind, Sem.run_pure, Result.andThen_ok, invoke, builtin, List.map_toArray, List.map_cons, List.map_nil] using this
    · rename_i hc
      obtain ⟨h1, rfl⟩ := noUpd_eq he
      unfold mmScalar at h1
      split at h1
      · rename_i v hm
        simp only [Option.some.injEq] at h1; subst h1
        obtain ⟨cx, cy, k, k', x, y, ha, e1, e2, rfl⟩ := mmOp_args hr hm
        have harr : c.args = #[cx, cy] := by have := congrArg List.toArray ha; simpa using this
        refine OpOk.quiet h (v := .int k (min x y)) ?_ (.p _ _ (.sc _))
        simp only [execOp, ho, resolve, hc, harr, Sem.run_bind, Sem.run_pure, Result.andThen_ok, invoke, builtin, List.map_toArray, List.map_cons, List.map_nil, e1, e2, Builtin.min_, List.foldlM_cons, List.foldlM_nil, Builtin.min2, min_if]
      · obtain ⟨v, k1, k2⟩ := scalar_sound hr (fun _ _ => by rw [ho]; exact fun e => by cases e) h1
        exact OpOk.quiet h k1 k2
    · rename_i hc
      obtain ⟨h1, rfl⟩ := noUpd_eq he
      unfold mmScalar at h1
      split at h1
      · rename_i v hm
        simp only [Option.some.injEq] at h1; subst h1
        obtain ⟨cx, cy, k, k', x, y, ha, e1, e2, rfl⟩ := mmOp_args hr hm
        have harr : c.args = #[cx, cy] := by have := congrArg List.toArray ha; simpa using this
        refine OpOk.quiet h (v := .int k (max x y)) ?_ (.p _ _ (.sc _))
        simp only [execOp, ho, resolve, hc, harr, Sem.run_bind, Sem.run_pure, Result.andThen_ok, invoke, builtin, List.map_toArray, List.map_cons, List.map_nil, e1, e2, Builtin.max_, List.foldlM_cons, List.foldlM_nil, Builtin.max2, max_if]
      · obtain ⟨v, k1, k2⟩ := scalar_sound hr (fun _ _ => by rw [ho]; exact fun e => by cases e) h1
        exact OpOk.quiet h k1 k2
    · cases he
  · cases he

end ops
end Go.Am
