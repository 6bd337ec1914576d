/-
  What strings.Builder does with addresses: compared with itself; the address of a list's first element; the string of bytes that are written no more.
-/
import Derived.Test.YtiphaojaolcidaaDoorAm11c
import Derived.Lib.Builder
import Derived.Lib.UnsafeStr
namespace Go.Am
open Go.RowKit

section
variable {P : Program} {g : Gh} {m : Mem} {w : World}

theorem slNil_sound {x : AV} {cx : Value} {b : Bool} (hx : VA g w x cx) (h : slNil x = some b) : ∃ a len cap, cx = .slice a len cap ∧ a.isNone = b := by
  have key : ∀ {len sz : Nat} {cs : List PV} {cx : Value}, VP g w (.ps len sz cs) cx → cond (Nat.ble 1 len) (some false) (cond (Nat.beq sz 0) (some true) none) = some b → ∃ a len cap, cx = .slice a len cap ∧ a.isNone = b := by
    intro len sz cs cx hx h
    cases hl : Nat.ble 1 len with
    | true =>
      simp only [hl, cond_true, Option.some.injEq] at h
      subst h
      have hl := Nat.le_of_ble_eq_true hl
      cases hx with
      | ps _ _ _ b o cap f hl hc hz hp hv => exact ⟨_, _, _, rfl, rfl⟩
      | psE sz a cap hz => omega
    | false =>
      simp only [hl, cond_false] at h
      cases hs : Nat.beq sz 0 with
      | false => simp [hs] at h
      | true =>
        simp only [hs, cond_true, Option.some.injEq] at h
        subst h
        have hs := Nat.eq_of_beq_eq_true hs
        subst hs
        cases hx with
        | ps _ _ _ b o cap f hl hc hz hp hv => omega
        | psE sz a cap hz =>
          obtain ⟨rfl, _⟩ := hz.resolve_left (by omega)
          exact ⟨_, _, _, rfl, rfl⟩
  unfold slNil at h
  split at h
  · rw [VA.pv] at hx; exact key hx h
  · cases hx with
    | os _ _ _ _ a cap hx hr => exact key hx h
  · cases hx with
    | ms _ _ _ _ cap c hc hcap =>
      simp only [Option.some.injEq] at h
      exact ⟨_, _, _, rfl, h⟩
    | mg _ _ _ _ cap c hc hcap =>
      simp only [Option.some.injEq] at h
      exact ⟨_, _, _, rfl, h⟩
  · cases h

theorem slNil_none {x : AV} {cx : Value} (hx : VA g w x cx) (h : slNil x = some true) : ∃ n c, cx = .slice none n c := by
  obtain ⟨a, len, cap, rfl, ha⟩ := slNil_sound hx h
  cases a with
  | none => exact ⟨len, cap, rfl⟩
  | some a => cases ha

theorem isU8_at : ∀ {pvs : List PV} {vs : List Value}, VPs g w pvs vs → pvs.all isU8 = true → ∀ {j : Nat} {y : UInt8}, (pvs.map byteOf)[j]? = some y → vs[j]? = some (.int .u8 y.toNat)
  | [], [], _, _, j, y, hj => by simp at hj
  | p :: pvs, v :: vs, h, hb, j, y, hj => by
    simp only [List.all_cons, Bool.and_eq_true] at hb
    cases j with
    | zero =>
      simp only [List.map_cons, List.getElem?_cons_zero, Option.some.injEq] at hj ⊢
      have h1 := h.1
      unfold isU8 at hb
      split at hb
      · rename_i n
        simp only [Bool.and_eq_true] at hb
        have k1 := of_decide_eq_true hb.1.1
        have k2 := of_decide_eq_true hb.1.2
        cases h1
        subst hj
        obtain ⟨q, rfl⟩ : ∃ q : Nat, n = q := ⟨n.toNat, by omega⟩
        have hq : q < 256 := by omega
        simp [byteOf, Nat.mod_eq_of_lt hq]
      · cases hb.1
    | succ j =>
      simp only [List.map_cons, List.getElem?_cons_succ] at hj ⊢
      exact isU8_at h.2 hb.2 hj
  | [], _ :: _, h, _, _, _, _ => h.elim
  | _ :: _, [], h, _, _, _, _ => h.elim

theorem samePtrOp_sound {ρ : Operand → AV} {ρc : Operand → Value} (hr : ∀ x, VA g w (ρ x) (ρc x)) {o : Oper} {op : BinOp} {t yt : TypeId} {x y : Operand} (ho : o.op = .binOp op t x y yt) (hsame : samePtr (ρ x) (ρ y) = true)
    {a : AV} {us : Upd} {ok : Bool} (he : samePtrOp P op t = some (a, us, ok)) : us = [] ∧ ∃ v, (execOp ρc o).run P w = .ok (.value v) w ∧ VA g w a v := by
  have hp : ∃ p, ρc x = .pointer (some p) ∧ ρc y = .pointer (some p) := by
    have h1 := hr x
    have h2 := hr y
    unfold samePtr at hsame
    split at hsame
    · rename_i b o' c q e1 e2
      rw [e1] at h1
      rw [e2] at h2
      simp only [Bool.and_eq_true] at hsame
      have k1 := Nat.eq_of_beq_eq_true hsame.1
      have k2 := Nat.eq_of_beq_eq_true hsame.2
      subst k1; subst k2
      generalize ρc x = cx at *
      generalize ρc y = cy at *
      cases h1 with
      | mp _ _ c1 hc1 =>
      cases h2 with
      | mp _ _ c2 hc2 =>
        rw [hc1] at hc2; cases hc2
        exact ⟨_, rfl, rfl⟩
    · cases hsame
  obtain ⟨p, hx, hy⟩ := hp
  unfold samePtrOp at he
  split at he
  · rename_i e hu
    have heq : ∀ j, P.info? e = some j → (Op.equal t (.pointer (some p)) (.pointer (some p))).run P w = .ok true w := by
      intro j hj
      have h : ∀ d : Nat, (Op.equalIn (d + 1) t (.pointer (some p)) (.pointer (some p))).run P w = .ok true w := fun d => by
        simp [Op.equalIn, run_underlying hu, sizeOf, typeInfo, hj, run_sameAddr_same]
      exact h 9999
    split at he
    · rename_i j hj
      simp only [Option.some.injEq, Prod.mk.injEq] at he
      obtain ⟨rfl, rfl, _⟩ := he
      refine ⟨rfl, .bool true, ?_, .p _ _ (.sc _)⟩
      simp only [execOp, ho, hx, hy, Sem.run_bind, (eqGuard_refs (P := P) (w := w) .eql t x y).1, Result.andThen_ok, binOp_refs t (.inl ⟨some p, some p, rfl, rfl⟩) _ (.inl rfl), heq j hj, Sem.run_pure]
      rfl
    · rename_i j hj
      simp only [Option.some.injEq, Prod.mk.injEq] at he
      obtain ⟨rfl, rfl, _⟩ := he
      refine ⟨rfl, .bool false, ?_, .p _ _ (.sc _)⟩
      simp only [execOp, ho, hx, hy, Sem.run_bind, (eqGuard_refs (P := P) (w := w) .neq t x y).1, Result.andThen_ok, binOp_refs t (.inl ⟨some p, some p, rfl, rfl⟩) _ (.inr rfl), heq j hj, Sem.run_pure]
      rfl
    · cases he
  · cases he

theorem sliceDataOp_sound {x a : AV} {cx : Value} (hx : VA g w x cx) {us : Upd} {ts : Array TypeId} {ty : TypeId} (he : sliceDataOp x = some (a, us, true)) :
    us = [] ∧ ∃ v, (Builtin.unsafeSliceData_ ts ty #[cx]).run P w = .ok v w ∧ VA g w a v := by
  unfold sliceDataOp at he
  split at he
  · rename_i hn
    simp only [Option.some.injEq, Prod.mk.injEq, and_true] at he
    obtain ⟨rfl, rfl⟩ := he
    obtain ⟨n, c, rfl⟩ := slNil_none hx hn
    exact ⟨rfl, _, Lib.run_unsafeSliceData_nil w ts ty n c, .p _ _ (.sc _)⟩
  · split at he
    · rename_i b off len sz cap _
      simp only [Option.some.injEq, Prod.mk.injEq] at he
      obtain ⟨rfl, rfl, h1⟩ := he
      have h1 := Nat.le_of_ble_eq_true h1
      cases hx with
      | ms _ _ _ _ cap c hc hcap => exact ⟨rfl, _, Lib.run_unsafeSliceData_row w ts ty ⟨c, off, none⟩ len cap (by omega), .mp b off c hc⟩
      | mg _ _ _ _ cap c hc hcap _ => exact ⟨rfl, _, Lib.run_unsafeSliceData_row w ts ty ⟨c, off, none⟩ len cap (by omega), .mp b off c hc⟩
    · cases he

theorem freeze_cells (w : World) {c off k : Nat} {cs : Array Value} {e : TypeId} {n : Nat × Nat} (h : w.heap[c]? = some (.cells cs e n)) :
    (∃ n', (w.freeze ⟨c, off, none⟩ k).heap[c]? = some (.cells cs e n')) ∧ (∀ j, j ≠ c → (w.freeze ⟨c, off, none⟩ k).heap[j]? = w.heap[j]?) ∧ (w.freeze ⟨c, off, none⟩ k).heap.size = w.heap.size ∧
      (w.freeze ⟨c, off, none⟩ k).os = w.os ∧ (w.freeze ⟨c, off, none⟩ k).tape = w.tape ∧ (w.freeze ⟨c, off, none⟩ k).output = w.output := by
  unfold World.freeze
  split
  · exact ⟨⟨n, h⟩, fun _ _ => rfl, rfl, rfl, rfl, rfl⟩
  · refine ⟨?_, fun j hj => ?_, by simp, rfl, rfl, rfl⟩
    · obtain ⟨lo, hi⟩ := n
      refine ⟨if lo == hi then (off, off + k) else (min lo off, max hi (off + k)), ?_⟩
      show (w.heap.modify c _)[c]? = _
      rw [Array.getElem?_modify, if_pos rfl, h]
      rfl
    · show (w.heap.modify c _)[j]? = _
      rw [Array.getElem?_modify, if_neg (fun e => hj e.symm)]

theorem toPVs_bytes : ∀ {l : List AV}, l.all isU8A = true → ∃ pvs, toPVs l = some pvs ∧ pvs.all isU8 = true ∧ pvs.map byteOf = l.map byteA
  | [], _ => ⟨[], rfl, rfl, rfl⟩
  | a :: l, h => by
    simp only [List.all_cons, Bool.and_eq_true] at h
    obtain ⟨pvs, h1, h2, h3⟩ := toPVs_bytes h.2
    cases a with
    | p v => exact ⟨v :: pvs, by simp [toPVs, toPV, h1], by simp only [List.all_cons, Bool.and_eq_true]; exact ⟨h.1, h2⟩, by simp [byteA, h3]⟩
    | _ => exact absurd h.1 (by simp [isU8A])

theorem unsafeStringOp_sound (h : Rel g m w) {x n a : AV} {cx cn : Value} (hx : VA g w x cx) (hn : VA g w n cn) {us : Upd} {ts : Array TypeId} {ty : TypeId} (he : unsafeStringOp P (fun i => m.getD i .dead) ts.toList x n = some (a, us, true)) :
    OpOk g m w (((do pure (.value (← Builtin.unsafeString_ ts ty #[cx, cn])) : Sem Next)).run P w) a (apply m us) := by
  unfold unsafeStringOp at he
  split at he
  · rename_i k
    obtain rfl := key_eq hn
    split at he
    · rename_i pt it hts
      have hts : ts = #[pt, it] := by have := congrArg List.toArray hts; simpa using this
      subst hts
      split at he
      · rename_i hk
        split at he
        · simp only [Option.some.injEq, Prod.mk.injEq, and_true] at he
          obtain ⟨rfl, rfl⟩ := he
          have hk := of_decide_eq_true hk
          subst hk
          obtain rfl := key_eq hx
          refine OpOk.quiet h (v := .string .empty) ?_ (.p _ _ (.sc _))
          simp only [Sem.run_bind, Lib.run_unsafeString_none, Result.andThen_ok, Sem.run_pure]
        · cases he
      · rename_i hk
        split at he
        · rename_i e b t l hp hgr
          have hb : x = .mp b 0 ∧ ∃ pq, m.getD b .dead = .ob (.gr t pq) l := by
            unfold grOf at hgr
            split at hgr
            · split at hgr
              · rename_i hq
                simp only [Option.some.injEq, Prod.mk.injEq] at hgr
                obtain ⟨rfl, rfl, rfl⟩ := hgr
                exact ⟨rfl, _, hq⟩
              · cases hgr
            · cases hgr
          obtain ⟨rfl, pq, hb⟩ := hb
          · simp only [Option.some.injEq, Prod.mk.injEq, Bool.and_eq_true] at he
            obtain ⟨rfl, rfl, h1, h2, h3, h4, h5, h6⟩ := he
            obtain ⟨pvs, hpv, hu, hby⟩ := toPVs_bytes h1
            rw [← hby]
            have h2 := Nat.eq_of_beq_eq_true h2
            have h3 := Nat.eq_of_beq_eq_true h3
            have h4 := of_decide_eq_true h4
            have h5 := Nat.le_of_ble_eq_true h5
            have h6 := Nat.le_of_ble_eq_true h6
            subst h2
            obtain ⟨q, rfl⟩ : ∃ q : Nat, k = q := ⟨k.toNat, by omega⟩
            simp only [Int.toNat_natCast] at *
            cases hx with
            | mp _ _ c hc =>
            have hbl := getD_some hb (by simp)
            obtain ⟨c', ob, vs, k1, k2, k3, k4, _, _⟩ := h.obs b _ _ hbl
            rw [hc] at k1; cases k1
            obtain ⟨cs, e, fr, rfl, rfl, q0, q1, q2, q3⟩ := k4
            have hl := k3.len
            have hsub : VPs g w pvs (vs.take q) := toPVs_sound hpv (k3.take q)
            have hnl := hsub.len
            generalize hbs : pvs.map byteOf = bs at *
            have hbl2 : bs.length = q := by rw [← hbs, List.length_map, hnl, List.length_take]; omega
            have hcells : ∀ j y, bs[j]? = some y → w.cell? ((⟨c, 0, none⟩ : Addr).add j) = some (.int .u8 y.toNat) := by
              intro j y hj
              have hjl := lt_of_get hj
              have hcell : w.cell? ⟨c, j, none⟩ = (vs.take q)[j]? := by
                rw [cell?_cells k2, List.getElem?_take, if_pos (by omega), q1, List.getElem?_take, if_pos (by omega)]
                simp
              have hadd : (⟨c, 0, none⟩ : Addr).add j = ⟨c, j, none⟩ := by
                unfold Addr.add
                by_cases hj0 : j = 0
                · subst hj0; simp
                · simp [hj0]
              rw [hadd, hcell]
              have hbyte := isU8_at hsub hu (j := j) (y := y) (by rw [hbs]; exact hj)
              exact hbyte
            have hsh : w.shape? c = some (e, cs.size) := by simp only [World.shape?, k2]
            have hrun := Lib.run_unsafeString_row (P := P) w pt it ty e hp h3 c cs.size hsh bs (by intro q; subst q; simp at hbl2; omega) (by omega) (by unfold lim at h6; omega) hcells
            rw [hbl2] at hrun
            obtain ⟨⟨n', f1⟩, f2, f3, f4, f5, f6⟩ := freeze_cells w (off := 0) (k := q) k2
            obtain ⟨r1, r2, r3⟩ := h.writeOb (ob' := .opq) (l' := []) (vs' := []) hbl hc f2 f3 f4 f5 f6 f1 rfl trivial
            refine ⟨.string ⟨bs.toArray⟩, _, g, .inl ?_, .p _ _ (.sc _), r1, r2, r3⟩
            simp only [Sem.run_bind, hrun, Result.andThen_ok, Sem.run_pure]
        · cases he
    · cases he
  · cases he

end
end Go.Am
