/-
  Regions whose order is open, where no operation changes memory: in any order that may be drawn, the same is made.
-/
import Derived.Test.YtiphaojaolcidaaDoorAm16
import Derived.Orders
namespace Go.Am

section
variable {P : Program} {E : Env}

theorem allSc_congr {ρ ρ' : Operand → AV} : ∀ {l : List Operand}, (∀ x ∈ l, ρ x = ρ' x) → allSc ρ l = allSc ρ' l
  | [], _ => rfl
  | x :: r, h => by simp only [allSc, h x (.head _), allSc_congr fun y hy => h y (.tail _ hy)]

theorem bound_congr {ρ ρ' : Operand → AV} {x : Option Operand} (h : ∀ y ∈ x, ρ y = ρ' y) (d : Nat) : bound ρ x d = bound ρ' x d := by
  cases x with
  | none => rfl
  | some x => simp only [bound, h x (by simp)]

theorem op1_congr {rd : Nat → Blk} {wr : Bool} {nid : Nat} {ρ ρ' : Operand → AV} {o : Oper} (hq : quietOp o = true) (h : ∀ x ∈ o.op.operands, ρ x = ρ' x) : op1 P rd wr nid ρ o = op1 P rd wr nid ρ' o := by
  have hsel : ∀ cs b, o.op ≠ .select cs b := by
    intro cs b e
    simp [quietOp, e] at hq
  have hsc : scalar P ρ o = scalar P ρ' o := by
    unfold scalar
    rw [allSc_congr (ρ := ρ) (ρ' := ρ') fun x hx => h x (by simpa using hx),
      execOp_congr (ρ := fun x => (toV (ρ x)).getD undef) (ρ' := fun x => (toV (ρ' x)).getD undef) o hsel fun x hx => by rw [h x hx]]
  obtain ⟨dst, op, type, pos, after, guard⟩ := o
  cases op <;> simp only [quietOp, Bool.false_eq_true] at hq <;> simp only [Op.operands] at h <;> simp only [op1]
  case move x => rw [h x (by simp)]
  case assign x => rw [h x (by simp)]
  case pick c a b => rw [h c (by simp), h a (by simp), h b (by simp)]
  case build t ps =>
    have : ps.toList.map (fun q => (q.1, ρ q.2)) = ps.toList.map fun q => (q.1, ρ' q.2) :=
      List.map_congr_left fun q hq => by rw [h q.2 (by simp only [List.mem_toArray, List.mem_map]; exact ⟨q, hq, rfl⟩)]
    rw [this]
  case load t a => rw [h a (by simp)]
  case nilCheck x => rw [h x (by simp)]; simp only [nilCheckOp, hsc]
  case binOp op t x y r => rw [h x (by simp), h y (by simp)]; simp only [binOpOp, hsc]
  case unOp op t x => rw [h x (by simp)]; simp only [unOpOp, hsc]
  case convert s d x => rw [h x (by simp)]; simp only [convertOp, hsc]
  case makeInterface t x => rw [h x (by simp)]
  case makeFunc f first captured =>
    rw [List.map_congr_left (l := first.toList) fun x hx => h x (by simp_all), List.map_congr_left (l := captured.toList) fun x hx => h x (by simp_all)]
  case slice t x lo hi mx =>
    rw [h x (by simp)]
    have h1 := bound_congr (ρ := ρ) (ρ' := ρ') (x := lo) fun y hy => h y (by simp_all)
    have h2 := bound_congr (ρ := ρ) (ρ' := ρ') (x := hi) fun y hy => h y (by simp_all)
    have h3 := bound_congr (ρ := ρ) (ρ' := ρ') (x := mx) fun y hy => h y (by simp_all)
    cases mx with
    | none =>
      simp only [sliceOp, h1, h2]
      repeat' first | rfl | split
      all_goals simp_all
    | some m =>
      simp only [sliceOp, h1, h2]
      repeat' first | rfl | split
      all_goals simp_all
  case fieldAddr t x f => rw [h x (by simp)]
  case field t x f => rw [h x (by simp)]
  case indexAddr t x i => rw [h x (by simp), h i (by simp)]
  case index t x i => rw [h x (by simp), h i (by simp)]
  case extract x i => rw [h x (by simp)]
  case call c =>
    obtain ⟨callee, args, tys⟩ := c
    cases callee with
    | value _ => simp at hq
    | invoke _ _ => simp at hq
    | builtin b =>
      simp only [Call.operands] at h
      obtain ⟨args⟩ := args
      have hmm : ∀ mn, mmScalar P ρ ⟨dst, .call ⟨.builtin b, ⟨args⟩, tys⟩, type, pos, after, guard⟩ mn args = mmScalar P ρ' ⟨dst, .call ⟨.builtin b, ⟨args⟩, tys⟩, type, pos, after, guard⟩ mn args := by
        intro mn
        unfold mmScalar
        rw [hsc, List.map_congr_left (l := args) fun x hx => h x (by simp_all)]
      cases b <;> simp only [Bool.false_eq_true] at hq <;> simp only [hmm]
      cases args with
      | nil => rfl
      | cons x r => cases r with
        | nil => simp only [h x (by simp)]
        | cons _ _ => rfl

theorem look_put (st : St) (dst : Option Tmp) (v : AV) (t : Nat) : look (put st dst v).tm t = if dst = some t then v else look st.tm t := by
  cases dst with
  | none => simp [put]
  | some d => simp only [put, look_cons, Option.some.injEq]

theorem put_mem (st : St) (dst : Option Tmp) (v : AV) : (put st dst v).mem = st.mem ∧ (put st dst v).nt = st.nt ∧ (put st dst v).fix = st.fix := by
  cases dst <;> exact ⟨rfl, rfl, rfl⟩

theorem fits_put (st : St) (dst dst' : Option Tmp) (v : AV) : fits (put st dst v) dst' = fits st dst' := by
  unfold fits
  rw [(put_mem st dst v).2.1]

theorem meet_false {a b : List Nat} (h : meet a b = false) {i : Nat} (ha : i ∈ a) (hb : i ∈ b) : False := by
  simp only [meet, List.any_eq_false] at h
  have := h i ha
  simp only [List.any_eq_true, not_exists, not_and] at this
  exact this i hb (Nat.beq_refl i)

theorem masks_eq : ∀ (l : List Oper) (acc : List Nat), ∃ M, masks acc l = acc ++ M ∧ M.length = l.length ∧ ∀ i o, l[i]? = some o → M[i]? = some (maskOf (acc ++ M.take i) o)
  | [], acc => ⟨[], by simp [masks]⟩
  | o :: r, acc => by
    obtain ⟨M, h1, h2, h3⟩ := masks_eq r (acc ++ [maskOf acc o])
    refine ⟨maskOf acc o :: M, by simp [masks, h1], by simp [h2], ?_⟩
    intro i p hp
    cases i with
    | zero => simp only [List.getElem?_cons_zero, Option.some.injEq] at hp; subst hp; simp
    | succ i =>
      simp only [List.getElem?_cons_succ] at hp
      have := h3 i p hp
      simpa using this

theorem maskOf_bit {acc : List Nat} {o : Oper} {j : Nat} (h : Nat.testBit (maskOf acc o) j = true) : ∃ e ∈ o.after, Region.binds .any e = true ∧ (e.on = j ∨ Nat.testBit (acc.getD e.on 0) j = true) := by
  unfold maskOf at h
  have key : ∀ (l : List Edge) (s : Nat), Nat.testBit (l.foldl (fun s e => cond (Region.binds .any e) (s ||| (2 ^ e.on ||| acc.getD e.on 0)) s) s) j = true →
      Nat.testBit s j = true ∨ ∃ e ∈ l, Region.binds .any e = true ∧ (e.on = j ∨ Nat.testBit (acc.getD e.on 0) j = true) := by
    intro l
    induction l with
    | nil => intro s h; exact .inl h
    | cons e r ih =>
      intro s h
      simp only [List.foldl_cons] at h
      rcases ih _ h with h | ⟨e', he', q⟩
      · cases hb : Region.binds .any e with
        | false => rw [hb] at h; exact .inl h
        | true =>
          rw [hb] at h
          simp only [cond_true, Nat.testBit_or, Bool.or_eq_true] at h
          rcases h with h | h | h
          · exact .inl h
          · refine .inr ⟨e, .head _, hb, .inl ?_⟩
            rw [Nat.testBit_two_pow] at h
            exact of_decide_eq_true h
          · exact .inr ⟨e, .head _, hb, .inr h⟩
      · exact .inr ⟨e', .tail _ he', q⟩
  rcases key _ _ h with h | ⟨e, he, q⟩
  · simp at h
  · exact ⟨e, by simpa using he, q⟩

/-- What 'ordersOk' tells of an operation and of two. -/
theorem ordersOk_spec {q : Oper → Bool} {ops : Array Oper} {L : List Nat} : ∀ {r bef : List Oper}, ordersOk q ops L bef.length bef r = true →
    ∀ i o, (bef ++ r)[i]? = some o → bef.length ≤ i →
      q o = true ∧ (∀ e ∈ o.after, Region.binds .any e = true → e.on < i) ∧ ∀ j p, j < i → (bef ++ r)[j]? = some p → pairOk ops L i o j p = true
  | [], bef, _, i, o, ho, hi => by
    simp only [List.append_nil] at ho
    rw [List.getElem?_eq_none hi] at ho; cases ho
  | q0 :: r, bef, h, i, o, ho, hi => by
    simp only [ordersOk, Bool.and_eq_true] at h
    obtain ⟨⟨⟨h1, h2⟩, h3⟩, h4⟩ := h
    by_cases hc : i = bef.length
    · subst hc
      have : o = q0 := by simpa using ho.symm
      subst this
      refine ⟨h1, ?_, ?_⟩
      · intro e he hb
        have := List.all_eq_true.1 h2 e (by simpa using he)
        simp only [hb, Bool.not_true, Bool.false_or] at this
        rwa [Nat.blt_eq] at this
      · intro j p hj hp
        have key : ∀ (l : List Oper) (k : Nat), pairsOk ops L bef.length o k l = true → ∀ m p, l[m]? = some p → pairOk ops L bef.length o (k + m) p = true := by
          intro l
          induction l with
          | nil => intro k _ m p hp; simp at hp
          | cons x l ih =>
            intro k hk m p hp
            simp only [pairsOk, Bool.and_eq_true] at hk
            cases m with
            | zero => simp only [List.getElem?_cons_zero, Option.some.injEq] at hp; subst hp; exact hk.1
            | succ m =>
              simp only [List.getElem?_cons_succ] at hp
              have := ih (k + 1) hk.2 m p hp
              rwa [Nat.add_assoc, Nat.add_comm 1 m] at this
        have hp' : bef[j]? = some p := by rwa [List.getElem?_append_left hj] at hp
        simpa using key bef 0 h3 j p hp'
    · have h4' : ordersOk q ops L (bef ++ [q0]).length (bef ++ [q0]) r = true := by simpa using h4
      have := ordersOk_spec h4' i o (by simpa using ho) (by simp; omega)
      simpa using this

/-- What becomes of one operation of such a region. -/
def QKind (P : Program) (E : Env) (rd : Nat → Blk) (wr : Bool) (nid : Nat) (ops : Array Oper) (st : St) (o : Oper) (v : AV) : Prop :=
  ((wants ops st.tm o = .yes ∨ ∃ d b want, wants ops st.tm o = .ask d b want ∧ (b == want) = true) ∧ op1 P rd wr nid (ev E st.tm) o = some (v, [], true)) ∨
  ((wants ops st.tm o = .no ∨ ∃ d b want, wants ops st.tm o = .ask d b want ∧ (b == want) = false) ∧ v = .tup [])

inductive QRun (P : Program) (E : Env) (rd : Nat → Blk) (wr : Bool) (nid : Nat) (ops : Array Oper) : List Oper → St → List AV → St → Prop
  | nil (st : St) : QRun P E rd wr nid ops [] st [] st
  | cons (o : Oper) (r : List Oper) (st : St) (v : AV) (vs : List AV) (st' : St) (hf : fits st o.dst = true) (h : QKind P E rd wr nid ops st o v)
      (hr : QRun P E rd wr nid ops r (put st o.dst v) vs st') : QRun P E rd wr nid ops (o :: r) st (v :: vs) st'

theorem quietGo_run {rd : Nat → Blk} {wr : Bool} {nid : Nat} {ops : Array Oper} : ∀ {l : List Oper} {st st' : St}, quietGo P E rd wr nid ops l st = some (st', true) → ∃ vs, QRun P E rd wr nid ops l st vs st'
  | [], st, st', h => by
    simp only [quietGo, Option.some.injEq, Prod.mk.injEq, and_true] at h
    subst h
    exact ⟨[], .nil st⟩
  | o :: r, st, st', h => by
    have skip : (match quietGo P E rd wr nid ops r (put st o.dst (.tup [])) with
      | some (st', ok) => some (st', fits st o.dst && ok)
      | none => none) = some (st', true) → fits st o.dst = true ∧ ∃ vs, QRun P E rd wr nid ops r (put st o.dst (.tup [])) vs st' := by
      intro h
      split at h
      · rename_i st1 ok hq
        simp only [Option.some.injEq, Prod.mk.injEq, Bool.and_eq_true] at h
        obtain ⟨rfl, h1, rfl⟩ := h
        exact ⟨h1, quietGo_run hq⟩
      · cases h
    have doIt : (match op1 P rd wr nid (ev E st.tm) o with
      | some (v, [], ok) => match quietGo P E rd wr nid ops r (put st o.dst v) with
        | some (st', ok') => some (st', ok && (fits st o.dst && ok'))
        | none => none
      | _ => none) = some (st', true) → ∃ v, op1 P rd wr nid (ev E st.tm) o = some (v, [], true) ∧ fits st o.dst = true ∧ ∃ vs, QRun P E rd wr nid ops r (put st o.dst v) vs st' := by
      intro h
      split at h
      · rename_i v ok hop
        split at h
        · rename_i st1 ok' hq
          simp only [Option.some.injEq, Prod.mk.injEq, Bool.and_eq_true] at h
          obtain ⟨rfl, rfl, h1, rfl⟩ := h
          exact ⟨v, hop, h1, quietGo_run hq⟩
        · cases h
      · cases h
    unfold quietGo at h
    dsimp only at h
    cases hw : wants ops st.tm o with
    | yes =>
      rw [hw] at h
      obtain ⟨v, h1, h2, vs, h3⟩ := doIt h
      exact ⟨v :: vs, .cons o r st v vs st' h2 (.inl ⟨.inl hw, h1⟩) h3⟩
    | no =>
      rw [hw] at h
      obtain ⟨h2, vs, h3⟩ := skip h
      exact ⟨.tup [] :: vs, .cons o r st _ vs st' h2 (.inr ⟨.inl hw, rfl⟩) h3⟩
    | lost => rw [hw] at h; cases h
    | ask d b want =>
      rw [hw] at h
      dsimp only at h
      cases hb : b == want with
      | true =>
        rw [hb] at h
        obtain ⟨v, h1, h2, vs, h3⟩ := doIt h
        exact ⟨v :: vs, .cons o r st v vs st' h2 (.inl ⟨.inr ⟨d, b, want, hw, hb⟩, h1⟩) h3⟩
      | false =>
        rw [hb] at h
        obtain ⟨h2, vs, h3⟩ := skip h
        exact ⟨.tup [] :: vs, .cons o r st _ vs st' h2 (.inr ⟨.inr ⟨d, b, want, hw, hb⟩, rfl⟩) h3⟩

def Uniq (l : List Oper) : Prop := ∀ (i j : Nat) (p q : Oper) (t : Tmp), i < j → l[i]? = some p → l[j]? = some q → p.dst = some t → q.dst ≠ some t

/-- The slots behind the first operations. -/
def SlotsAt (l : List Oper) (vs : List AV) (st : St) (i : Nat) (sti : St) : Prop :=
  sti.mem = st.mem ∧ sti.nt = st.nt ∧ sti.fix = st.fix ∧ (∀ j p v t, j < i → l[j]? = some p → vs[j]? = some v → p.dst = some t → look sti.tm t = v) ∧
  (∀ t, (∀ j p, j < i → l[j]? = some p → p.dst ≠ some t) → look sti.tm t = look st.tm t)

theorem SlotsAt.cons {o : Oper} {r : List Oper} {v : AV} {vs : List AV} {st sti : St} {i : Nat} (hu : Uniq (o :: r)) (h : SlotsAt r vs (put st o.dst v) i sti) : SlotsAt (o :: r) (v :: vs) st (i + 1) sti := by
  obtain ⟨h1, h2, h3, h4, h5⟩ := h
  obtain ⟨q1, q2, q3⟩ := put_mem st o.dst v
  refine ⟨h1.trans q1, h2.trans q2, h3.trans q3, ?_, ?_⟩
  · intro j p w t hj hp hw ht
    cases j with
    | zero =>
      simp only [List.getElem?_cons_zero, Option.some.injEq] at hp hw
      subst hp; subst hw
      rw [h5 t fun j p _ hp => hu 0 (j + 1) o p t (by omega) rfl (by simpa using hp) ht, look_put, if_pos ht]
    | succ j => exact h4 j p w t (by omega) (by simpa using hp) (by simpa using hw) ht
  · intro t ht
    rw [h5 t fun j p hj hp => ht (j + 1) p (by omega) (by simpa using hp), look_put, if_neg (ht 0 o (by omega) rfl)]

theorem QRun.spec {rd : Nat → Blk} {wr : Bool} {nid : Nat} {ops : Array Oper} {l : List Oper} {st st' : St} {vs : List AV} (h : QRun P E rd wr nid ops l st vs st') (hu : Uniq l) :
    vs.length = l.length ∧ SlotsAt l vs st l.length st' ∧ ∀ i o, l[i]? = some o → ∃ v sti, vs[i]? = some v ∧ QKind P E rd wr nid ops sti o v ∧ fits sti o.dst = true ∧ SlotsAt l vs st i sti := by
  induction h with
  | nil st => exact ⟨rfl, ⟨rfl, rfl, rfl, fun j _ _ _ hj => absurd hj (Nat.not_lt_zero _), fun _ _ => rfl⟩, fun i o ho => by simp at ho⟩
  | cons o r st v vs st' hf hk hr ih =>
    have hu' : Uniq r := fun i j p q t hij hp hq => hu (i + 1) (j + 1) p q t (by omega) (by simpa using hp) (by simpa using hq)
    obtain ⟨h1, h2, h3⟩ := ih hu'
    refine ⟨by simp [h1], h2.cons hu, ?_⟩
    intro i p hp
    cases i with
    | zero =>
      simp only [List.getElem?_cons_zero, Option.some.injEq] at hp
      subst hp
      exact ⟨v, st, rfl, hk, hf, rfl, rfl, rfl, fun j _ _ _ hj => absurd hj (Nat.not_lt_zero _), fun _ _ => rfl⟩
    | succ i =>
      obtain ⟨w, sti, q1, q2, q3, q4⟩ := h3 i p (by simpa using hp)
      exact ⟨w, sti, by simpa using q1, q2, q3, q4.cons hu⟩

theorem meet_true {a b : List Nat} {i : Nat} (ha : i ∈ a) (hb : i ∈ b) : meet a b = true := by
  cases h : meet a b with
  | true => rfl
  | false => exact (meet_false h ha hb).elim

/-- Between two orders: the slots of what is done, and all others. -/
structure QInv (ops : Array Oper) (L : List Nat) (vs : List AV) (st0 stA : St) (S : Array Bool) : Prop where
  size : S.size = ops.size
  mem : stA.mem = st0.mem
  nt : stA.nt = st0.nt
  fix : stA.fix = st0.fix
  a : ∀ (j : Nat) (p : Oper) (v : AV) (t : Tmp), S.getD j false = true → ops.toList[j]? = some p → vs[j]? = some v → p.dst = some t → look stA.tm t = v
  b : ∀ t : Tmp, (∀ (j : Nat) (p : Oper), S.getD j false = true → ops.toList[j]? = some p → p.dst ≠ some t) → look stA.tm t = look st0.tm t
  cl : ∀ i j : Nat, S.getD i false = true → Nat.testBit (L.getD i 0) j = true → S.getD j false = true

structure QOrd (ops : Array Oper) (L : List Nat) : Prop where
  mask : ∀ i o, ops.toList[i]? = some o → L[i]? = some (maskOf (L.take i) o)
  low : ∀ (i : Nat) o, ops.toList[i]? = some o → ∀ e ∈ o.after, Region.binds .any e = true → e.on < i
  pair : ∀ (i : Nat) o, ops.toList[i]? = some o → ∀ j p, j < i → ops.toList[j]? = some p → pairOk ops L i o j p = true

theorem QOrd.of {q : Oper → Bool} {ops : Array Oper} (h : ordersOk q ops (masks [] ops.toList) 0 [] ops.toList = true) : QOrd ops (masks [] ops.toList) ∧ ∀ (i : Nat) o, ops.toList[i]? = some o → q o = true := by
  obtain ⟨M, h1, _, h3⟩ := masks_eq ops.toList []
  simp only [List.nil_append] at h1 h3
  rw [h1] at h ⊢
  have hs := fun i o ho => ordersOk_spec (bef := []) h i o ho (Nat.zero_le _)
  exact ⟨⟨h3, fun i o ho => (hs i o ho).2.1, fun i o ho => (hs i o ho).2.2⟩, fun i o ho => (hs i o ho).1⟩

theorem QOrd.uniq {ops : Array Oper} {L : List Nat} (h : QOrd ops L) : Uniq ops.toList := by
  intro i j p q t hij hp hq ht ht'
  have := h.pair j q hq i p hij hp
  simp only [pairOk, Bool.and_eq_true, Bool.not_eq_true'] at this
  exact meet_false this.1 (i := t) (by simp [ht']) (by simp [ht])

theorem getD_getD {S : Array Bool} {j : Nat} (h : j < S.size) (d d' : Bool) : S.getD j d = S.getD j d' := by
  simp [Array.getD_eq_getD_getElem?, Array.getElem?_eq_getElem h]

theorem getD_lt {S : Array Bool} {j : Nat} (h : S.getD j false = true) : j < S.size := by
  rcases Nat.lt_or_ge j S.size with q | q
  · exact q
  · rw [Array.getD_eq_getD_getElem?, Array.getElem?_eq_none q] at h; cases h

section
variable {ops : Array Oper} {L : List Nat} {vs : List AV} {st0 stA sti : St} {S : Array Bool}

/-- An operation whose turn may be: what must come ahead of it is done. -/
theorem QInv.ahead (hI : QInv ops L vs st0 stA S) (hO : QOrd ops L) {i : Nat} (hi : i ∈ Region.ready .any ops S) {j : Nat} (hb : Nat.testBit (L.getD i 0) j = true) : S.getD j false = true := by
  obtain ⟨_, o, ho, hr⟩ := mem_ready.1 hi
  have ho' : ops.toList[i]? = some o := by simpa using ho
  have hm := hO.mask i o ho'
  rw [List.getD_eq_getElem?_getD, hm, Option.getD_some] at hb
  obtain ⟨e, he, hbe, h⟩ := maskOf_bit hb
  rcases h with h | h
  · exact h ▸ hr e he hbe
  · have hlt := hO.low i o ho' e he hbe
    refine hI.cl e.on j (hr e he hbe) ?_
    rw [List.getD_eq_getElem?_getD, List.getElem?_take, if_pos hlt, ← List.getD_eq_getElem?_getD] at h
    exact h

theorem QInv.slots (hI : QInv ops L vs st0 stA S) (hO : QOrd ops L) {i : Nat} {o : Oper} (ho : ops.toList[i]? = some o) (hi : i ∈ Region.ready .any ops S) (hl : vs.length = ops.toList.length) (hsti : SlotsAt ops.toList vs st0 i sti)
    {t : Tmp} (ht : t ∈ Am.slots ops o) : look stA.tm t = look sti.tm t := by
  obtain ⟨_, _, _, hA, hB⟩ := hsti
  have hu := hO.uniq
  have hni : S.getD i false = false := by
    obtain ⟨h, _⟩ := mem_ready.1 hi
    cases hq : S.getD i false with
    | false => rfl
    | true => rw [getD_getD (getD_lt hq) false true, h] at hq; cases hq
  by_cases hw : ∃ (j : Nat) (p : Oper), ops.toList[j]? = some p ∧ p.dst = some t
  · obtain ⟨j, p, hp, hd⟩ := hw
    have only : ∀ (k : Nat) (q : Oper), ops.toList[k]? = some q → q.dst = some t → k = j := by
      intro k q hq hqd
      rcases Nat.lt_trichotomy k j with h | h | h
      · exact absurd hd (hu k j q p t h hq hp hqd)
      · exact h
      · exact absurd hqd (hu j k p q t h hp hq hd)
    rcases Nat.lt_trichotomy j i with h | h | h
    · have hpair := hO.pair i o ho j p h hp
      simp only [pairOk, Bool.and_eq_true, Bool.or_eq_true, Bool.not_eq_true'] at hpair
      have hbit : Nat.testBit (L.getD i 0) j = true := by
        rcases hpair.2 with q | q
        · exact q
        · exact (meet_false q.1 (i := t) (by simp [hd]) ht).elim
      have hS := hI.ahead hO hi hbit
      have hjv : ∃ v, vs[j]? = some v := by
        have : j < vs.length := by rw [hl]; exact (List.getElem?_eq_some_iff.1 hp).1
        exact ⟨vs[j], List.getElem?_eq_getElem this⟩
      obtain ⟨v, hv⟩ := hjv
      rw [hI.a j p v t hS hp hv hd, hA j p v t h hp hv hd]
    · subst h
      rw [hI.b t, hB t]
      · intro k q hk hq hqd
        have := only k q hq hqd
        omega
      · intro k q hk hq hqd
        have := only k q hq hqd
        subst this
        rw [hni] at hk; cases hk
    · have hpair := hO.pair j p hp i o h ho
      simp only [pairOk, Bool.and_eq_true, Bool.or_eq_true, Bool.not_eq_true'] at hpair
      have hbit : Nat.testBit (L.getD j 0) i = true := by
        rcases hpair.2 with q | q
        · exact q
        · exact (meet_false q.2 (i := t) (by simp [hd]) ht).elim
      rw [hI.b t, hB t]
      · intro k q hk hq hqd
        have := only k q hq hqd
        omega
      · intro k q hk hq hqd
        have := only k q hq hqd
        subst this
        have := hI.cl k i hk hbit
        rw [hni] at this; cases this
  · have hno : ∀ (k : Nat) (q : Oper), ops.toList[k]? = some q → q.dst ≠ some t := fun k q hq hd => hw ⟨k, q, hq, hd⟩
    rw [hI.b t fun k q _ hq => hno k q hq, hB t fun k q _ hq => hno k q hq]

theorem QInv.step (hI : QInv ops L vs st0 stA S) (hO : QOrd ops L) {i : Nat} {o : Oper} {v : AV} (ho : ops.toList[i]? = some o) (hv : vs[i]? = some v) (hi : i ∈ Region.ready .any ops S) :
    QInv ops L vs st0 (put stA o.dst v) (S.setIfInBounds i true) := by
  obtain ⟨q1, q2, q3⟩ := put_mem stA o.dst v
  have hu := hO.uniq
  have hset : ∀ j, (S.setIfInBounds i true).getD j false = true → j = i ∨ S.getD j false = true := by
    intro j hj
    by_cases h : i = j
    · exact .inl h.symm
    · rw [getD_set_ne false h] at hj; exact .inr hj
  have hup : ∀ j, S.getD j false = true → (S.setIfInBounds i true).getD j false = true := fun j hj => getD_set_true hj
  refine ⟨by simp [hI.size], q1.trans hI.mem, q2.trans hI.nt, q3.trans hI.fix, ?_, ?_, ?_⟩
  · intro j p w t hj hp hw hd
    rw [look_put]
    by_cases hji : j = i
    · subst hji
      rw [ho] at hp; cases hp
      rw [hv] at hw; cases hw
      rw [if_pos hd]
    · have hne : o.dst ≠ some t := by
        rcases Nat.lt_or_gt_of_ne hji with h | h
        · exact hu j i p o t h hp ho hd
        · exact fun hod => hu i j o p t h ho hp hod hd
      rw [if_neg hne]
      rcases hset j hj with h | h
      · exact absurd h hji
      · exact hI.a j p w t h hp hw hd
  · intro t ht
    have hil : i < S.size := by rw [hI.size]; have := (List.getElem?_eq_some_iff.1 ho).1; simpa using this
    have hne : o.dst ≠ some t := ht i o (by simp [Array.getD_eq_getD_getElem?, hil]) ho
    rw [look_put, if_neg hne]
    exact hI.b t fun j p hj hp => ht j p (hup j hj) hp
  · intro k j hk hb
    rcases hset k hk with h | h
    · subst h; exact hup j (hI.ahead hO hi hb)
    · exact hup j (hI.cl k j h hb)

/-- Where nothing may come next, all is done. -/
theorem QInv.all (hI : QInv ops L vs st0 stA S) (hO : QOrd ops L) (hr : Region.ready .any ops S = []) : ∀ i, i < ops.size → S.getD i false = true := by
  intro i
  induction i using Nat.strongRecOn with
  | ind i ih =>
    intro hi
    have ho : ops[i]? = some ops[i] := Array.getElem?_eq_getElem hi
    have ho' : ops.toList[i]? = some ops[i] := by simp [hi]
    cases hq : S.getD i false with
    | true => rfl
    | false =>
      have : i ∈ Region.ready .any ops S := mem_ready.2 ⟨by rw [getD_getD (by rw [hI.size]; exact hi) true false]; exact hq, ops[i], ho, fun e he hb => ih e.on (hO.low i _ ho' e he hb) (by have := hO.low i _ ho' e he hb; omega)⟩
      rw [hr] at this; cases this

theorem QInv.ends (hI : QInv ops L vs st0 stA S) (hl : vs.length = ops.toList.length) {st' : St} (hst : SlotsAt ops.toList vs st0 ops.toList.length st') (hall : ∀ i, i < ops.size → S.getD i false = true) :
    stA.mem = st'.mem ∧ stA.nt = st'.nt ∧ stA.fix = st'.fix ∧ ∀ t, look stA.tm t = look st'.tm t := by
  obtain ⟨h1, h2, h3, hA, hB⟩ := hst
  refine ⟨hI.mem.trans h1.symm, hI.nt.trans h2.symm, hI.fix.trans h3.symm, fun t => ?_⟩
  by_cases hw : ∃ (j : Nat) (p : Oper), ops.toList[j]? = some p ∧ p.dst = some t
  · obtain ⟨j, p, hp, hd⟩ := hw
    have hjl := (List.getElem?_eq_some_iff.1 hp).1
    have hjv : vs[j]? = some vs[j] := List.getElem?_eq_getElem (by rw [hl]; exact hjl)
    rw [hI.a j p _ t (hall j (by simpa using hjl)) hp hjv hd, hA j p _ t hjl hp hjv hd]
  · rw [hI.b t fun k q _ hq hd => hw ⟨k, q, hq, hd⟩, hB t fun k q _ hq hd => hw ⟨k, q, hq, hd⟩]

end

theorem SRel.same {g : Gh} {w : World} {st st' : St} {a : Act} (h : SRel E g st a w) (h1 : st.mem = st'.mem) (h2 : st.nt = st'.nt) (h3 : st.fix = st'.fix) (h4 : ∀ t, look st.tm t = look st'.tm t) : SRel E g st' a w :=
  ⟨fun k => h4 k ▸ h.tm k, h2 ▸ h.nt, h1 ▸ h.rel, by rw [← h1, ← h3]; exact h.fix, h.glob⟩

theorem wants_congr {ops : Array Oper} {tm tm' : Tms} {o : Oper} (h : ∀ t ∈ slots ops o, look tm t = look tm' t) : wants ops tm o = wants ops tm' o := by
  unfold wants
  unfold slots at h
  cases hg : o.guard with
  | none => rfl
  | some q =>
    obtain ⟨j, want⟩ := q
    simp only [hg] at h
    dsimp only
    cases hj : ops[j]? with
    | none => rfl
    | some oj =>
      simp only [hj] at h
      dsimp only
      cases hd : oj.dst with
      | none => rfl
      | some d => simp only [h d (by simp [hd])]

theorem ev_congr {tm tm' : Tms} {ops : Array Oper} {o : Oper} (h : ∀ t ∈ slots ops o, look tm t = look tm' t) : ∀ x ∈ o.op.operands, ev E tm x = ev E tm' x := by
  intro x hx
  cases x with
  | tmp t => exact h t (List.mem_append_right _ (List.mem_filterMap.2 ⟨.tmp t, by simpa using hx, rfl⟩))
  | _ => rfl

theorem quiet_any {b : Frame} {k : List Item} {ops : Array Oper} {L : List Nat} {vs : List AV} {st0 st' : St} {wr : Bool} {nid : Nat} (hO : QOrd ops L) (hQ : ∀ (i : Nat) o, ops.toList[i]? = some o → quietOp o = true) (hn : st0.mem[nid]? = some .free)
    (hrun : QRun P E (fun i => st0.mem.getD i .dead) wr nid ops ops.toList st0 vs st') : ∀ (fuel t : Nat) (S : Array Bool) (stA : St) (a : Act) (g : Gh) (w : World) (u : List Nat),
      QInv ops L vs st0 stA S → SRel E g stA a w → u.length = fuel → (∀ i, i < ops.size → S.getD i false = false → i ∈ u) →
      ∃ g' a' w', (∀ cs, Steps P (lone (b.atR a (.inRegion ops (Region.linearise.go .any ops fuel t S []) :: k)) cs w) (lone (b.atR a' (.inRegion ops [] :: k)) cs w')) ∧ a'.defers = a.defers ∧ SRel E g' st' a' w' ∧
        Stp g st0.mem w g' st0.mem w' ∧ Fixed g g' st0.fix ∧ ∀ i c, g.blk i = some c → g'.blk i = some c := by
  obtain ⟨hl, hend, hspec⟩ := hrun.spec hO.uniq
  intro fuel
  induction fuel with
  | zero =>
    intro t S stA a g w u hI hs hul hu
    have hall : ∀ i, i < ops.size → S.getD i false = true := by
      intro i hi
      cases hq : S.getD i false with
      | true => rfl
      | false =>
        have := hu i hi hq
        rw [List.eq_nil_of_length_eq_zero hul] at this; cases this
    obtain ⟨e1, e2, e3, e4⟩ := hI.ends hl hend hall
    exact ⟨g, a, w, fun cs => Steps.refl _ _, rfl, hs.same e1 e2 e3 e4, Stp.refl _ _ _, Fixed.refl _ _, fun _ _ h => h⟩
  | succ fuel ih =>
    intro t S stA a g w u hI hs hul hu
    simp only [Region.linearise.go]
    show ∃ g' a' w', (∀ cs, Steps P (lone (b.atR a (.inRegion ops (match (Region.ready .any ops S)[t % (Region.ready .any ops S).length]? with
      | some i => Region.linearise.go .any ops fuel (t / (Region.ready .any ops S).length) (S.setIfInBounds i true) [i]
      | none => [].reverse) :: k)) cs w) (lone (b.atR a' (.inRegion ops [] :: k)) cs w')) ∧ _
    cases hi : (Region.ready .any ops S)[t % (Region.ready .any ops S).length]? with
    | none =>
      have hnil : Region.ready .any ops S = [] := by
        cases hr : Region.ready .any ops S with
        | nil => rfl
        | cons x xs =>
          rw [hr] at hi
          have hlt : t % (x :: xs).length < (x :: xs).length := Nat.mod_lt _ (by simp)
          rw [List.getElem?_eq_getElem hlt] at hi; cases hi
      obtain ⟨e1, e2, e3, e4⟩ := hI.ends hl hend (hI.all hO hnil)
      exact ⟨g, a, w, fun cs => Steps.refl _ _, rfl, hs.same e1 e2 e3 e4, Stp.refl _ _ _, Fixed.refl _ _, fun _ _ h => h⟩
    | some i =>
      have hir := List.mem_of_getElem? hi
      obtain ⟨hSi, o, ho, _⟩ := mem_ready.1 hir
      have ho' : ops.toList[i]? = some o := by simpa using ho
      obtain ⟨v, sti, hv, hk, hf, hsti⟩ := hspec i o ho'
      have hslots : ∀ t ∈ slots ops o, look stA.tm t = look sti.tm t := fun t ht => hI.slots hO ho' hir hl hsti ht
      have hilt : i < ops.size := (Array.getElem?_eq_some_iff.1 ho).1
      have hmemu : i ∈ u := hu i hilt (by rw [getD_getD (by rw [hI.size]; exact hilt) false true]; exact hSi)
      have hu' : ∀ j, j < ops.size → (S.setIfInBounds i true).getD j false = false → j ∈ u.erase i := by
        intro j hj hq
        have hne : j ≠ i := by
          intro e
          subst e
          rw [show (S.setIfInBounds j true).getD j false = true by simp [Array.getD_eq_getD_getElem?, hI.size, hj]] at hq
          cases hq
        rw [getD_set_ne false (fun e => hne e.symm)] at hq
        exact (List.mem_erase_of_ne hne).2 (hu j hj hq)
      have hul' : (u.erase i).length = fuel := by rw [List.length_erase_of_mem hmemu, hul]; rfl
      have hI' := hI.step hO ho' hv hir
      have hfA : fits stA o.dst = true := by
        have : fits stA o.dst = fits sti o.dst := by unfold fits; rw [hI.nt, hsti.2.1]
        rw [this]; exact hf
      dsimp only
      rw [linearise_go_acc, List.reverse_singleton, List.singleton_append]
      have hwt := wants_congr hslots
      obtain ⟨w1, w2, w3⟩ := wants_yes hs (ops := ops) (o := o)
      rcases hk with ⟨hw, hop⟩ | ⟨hw, rfl⟩
      · have hwanted : Region.wanted o (yielded ops a.tmps) = true := by
          rcases hw with hw | ⟨d, b', want, hw, hb⟩
          · exact w1 (hwt.trans hw)
          · rw [(w3 d b' want (hwt.trans hw)).1]; exact hb
        have hop' : op1 P (fun i => stA.mem.getD i .dead) wr nid (ev E stA.tm) o = some (v, [], true) := by
          rw [hI.mem, op1_congr (hQ i o ho') (ev_congr hslots)]; exact hop
        obtain ⟨cv, w', g', k1, k2, k3, k4, k5⟩ := op1_sound hs.rel (ev_sound hs) (fun _ => rfl) (fun _ => by rw [hI.mem]; exact hn) hop'
        have hs' := hs.put hfA k2 k4 k3 hs.fix
        obtain ⟨g2, a2, w2', r1, r2, r3, r4, r5, r6⟩ := ih (t / (Region.ready .any ops S).length) _ _ _ _ _ _ hI' hs' hul' hu'
        refine ⟨g2, a2, w2', fun cs => .head (step_op ho hwanted k1) (r1 cs), r2.trans put_defers, r3, ?_, (Fixed.ofExt k4 _).trans r5, fun i c q => r6 i c (k4.blk i c q).1⟩
        have k5' : Stp g st0.mem w g' st0.mem w' := by rw [← hI.mem]; exact k5
        exact k5'.trans r4
      · have hwanted : Region.wanted o (yielded ops a.tmps) = false := by
          rcases hw with hw | ⟨d, b', want, hw, hb⟩
          · exact w2 (hwt.trans hw)
          · rw [(w3 d b' want (hwt.trans hw)).1]; exact hb
        have hs' := hs.put (v := .tup []) (cv := undef) hfA (VA.tups.2 trivial) (Ext.refl g w) hs.rel hs.fix
        obtain ⟨g2, a2, w2', r1, r2, r3, r4, r5, r6⟩ := ih (t / (Region.ready .any ops S).length) _ _ _ _ _ _ hI' hs' hul' hu'
        refine ⟨g2, a2, w2', fun cs => .head ?_ (r1 cs), r2.trans put_defers, r3, r4, r5, r6⟩
        have hst := stepR_op_skip (P := P) (b := b) (a := a) (k := k) (cs := cs) (w := w) (ops := ops) (i := i) (rest := Region.linearise.go .any ops fuel (t / (Region.ready .any ops S).length) (S.setIfInBounds i true) []) (by simp [ho, hwanted])
        simpa only [ho, Option.bind_some] using hst

/-- A drawn number alone. -/
theorem SRel.drew {g : Gh} {w : World} {st : St} {a : Act} (h : SRel E g st a w) (n : Nat) : SRel E g st a { w with drawn := n } := by
  have he : Ext g w g { w with drawn := n } := ⟨fun _ _ e => ⟨e, rfl, rfl⟩, fun _ _ e => ⟨e, rfl⟩⟩
  refine ⟨fun k => (h.tm k).mono he, h.nt, (h.rel.sameHeap (w' := { w with drawn := n }) rfl rfl rfl rfl).1, h.fix, h.glob.mono he.pure⟩

/-- A region whose order is open. -/
theorem draw_ok {g : Gh} {w : World} {b : Frame} {a : Act} {k : List Item} {ops : Array Oper} {f rid : Nat} {st st' : St} (hs : SRel E g st a w) (h : quietRun P E f rid ops st = some (st', true)) :
    ∃ g' a' w', (∀ cs, Steps P (lone (b.atR a (.code (.region rid ops true) :: k)) cs w) (lone (b.atR a' k) cs w')) ∧ a'.defers = a.defers ∧ SRel E g' st' a' w' ∧
      Stp g st.mem w g' st'.mem w' ∧ Fixed g g' st.fix ∧ st'.fix = st.fix ∧ ∀ i c, g.blk i = some c → g'.blk i = some c := by
  unfold quietRun at h
  dsimp only at h
  split at h
  · rename_i st1 ok hq
    cases hall : ops.toList.all quietOp with
    | false => rw [hall] at hq; cases hq
    | true =>
    rw [hall] at hq
    simp only [cond_true] at hq
    simp only [Option.some.injEq, Prod.mk.injEq, Bool.and_eq_true] at h
    obtain ⟨rfl, rfl, hord, hmix⟩ := h
    obtain ⟨vs, hrun⟩ := quietGo_run hq
    obtain ⟨hO, hQ⟩ := QOrd.of hord
    obtain ⟨hr1, hr2⟩ := hs.rel.reserve
    have hs1 : SRel E g { st with mem := st.mem ++ [.free] } a w := ⟨hs.tm, hs.nt, hr1, by simp; have := hs.fix; omega, hs.glob⟩
    have hgd : ∀ j, (Array.replicate ops.size false).getD j false = false := by
      intro j
      rw [Array.getD_eq_getD_getElem?, Array.getElem?_replicate]
      split <;> rfl
    have hI : QInv ops (masks [] ops.toList) vs { st with mem := st.mem ++ [.free] } { st with mem := st.mem ++ [.free] } (Array.replicate ops.size false) :=
      ⟨by simp, rfl, rfl, rfl, fun j _ _ _ hj => (by rw [hgd] at hj; cases hj), fun _ _ => rfl, fun i _ hi => (by rw [hgd] at hi; cases hi)⟩
    have hs2 := hs1.drew (w.drawn + 1)
    obtain ⟨g', a', w', r1, r2, r3, r4, r5, r6⟩ := quiet_any (P := P) (E := E) (b := b) (k := k) hO hQ (by simp) hrun ops.size (w.tape w.drawn (.order b.fn rid)) _ _ a g _ (List.range ops.size) hI hs2 (by simp) (fun i hi _ => List.mem_range.2 hi)
    have hend := (hrun.spec hO.uniq).2.1
    refine ⟨g', a', w', fun cs => ?_, r2, r3, ?_, r5, hend.2.2.1, r6⟩
    · refine .head stepR_region_draw ?_
      have hsch : Region.schedule (P.follows .mixedOrders) ops (w.tape w.drawn (.order b.fn rid)) = Region.linearise.go .any ops ops.size (w.tape w.drawn (.order b.fn rid)) (Array.replicate ops.size false) [] := by
        simp only [Region.schedule, hmix, if_true, Region.linearise]
      rw [hsch]
      exact (r1 cs).trans (.one stepR_region_end)
    · rw [hend.1]
      have hst : Stp g (st.mem ++ [.free]) w g (st.mem ++ [.free]) { w with drawn := w.drawn + 1 } := ⟨Nat.le_refl _, fun _ _ _ => rfl, fun _ _ h => ⟨h, rfl⟩, fun _ _ h => .inl h, fun _ h => .inl h, rfl, rfl, rfl⟩
      exact (hr2.trans hst).trans r4
  · cases h

end
end Go.Am
