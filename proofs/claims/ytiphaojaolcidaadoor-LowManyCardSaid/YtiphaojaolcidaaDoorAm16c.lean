/-
  Regions whose order is open, where operations call functions, and write memory: what each looks at is left alone by those that may come on either side of it, so in any order that may be drawn the same is made.
-/
import Derived.Test.YtiphaojaolcidaaDoorAm16b
namespace Go.Am
open Go.RowKit

section
variable {P : Program} {E : Env}

theorem cellsAt_congr {rd rd' : Nat → Blk} {a : AV} (h : ∀ b ∈ refs a, rd b = rd' b) (n : Nat) : cellsAt rd a n = cellsAt rd' a n := by
  cases a with
  | mp b off => simp only [cellsAt, h b (by simp [refs])]
  | p v => cases v <;> rfl
  | _ => rfl

theorem contents_congr {rd rd' : Nat → Blk} {a : AV} (h : ∀ b ∈ refs a, rd b = rd' b) (sz : Nat) : contents rd sz a = contents rd' sz a := by
  cases a with
  | ms b off len s c =>
    cases c with
    | none => simp only [contents, h b (by simp [refs])]
    | some c => simp only [contents, h b (by simp [refs])]
  | p v =>
    cases v with
    | sc v => cases v <;> rfl
    | _ => rfl
  | _ => rfl

theorem contentsA_congr {rd rd' : Nat → Blk} {a : AV} (h : ∀ b ∈ refs a, rd b = rd' b) (sz : Nat) : contentsA rd sz a = contentsA rd' sz a := by
  have hc := contents_congr h sz
  unfold contentsA
  rw [hc]
  cases contents rd' sz a with
  | some r => rfl
  | none =>
    cases a with
    | ms b off len s c =>
      cases c with
      | none => rfl
      | some c => simp only [h b (by simp [refs])]
    | _ => rfl

theorem unsafeString_congr {rd rd' : Nat → Blk} {x n : AV} (h : ∀ b ∈ refs x, rd b = rd' b) {ts : List TypeId} : unsafeStringOp P rd ts x n = unsafeStringOp P rd' ts x n := by
  have hg : grOf rd x = grOf rd' x := by
    cases x with
    | mp b off => cases off with
      | zero => simp only [grOf, h b (by simp [refs])]
      | succ _ => rfl
    | _ => rfl
  unfold unsafeStringOp
  simp only [hg]

theorem convert_congr {rd rd' : Nat → Blk} {a : AV} (h : ∀ b ∈ refs a, rd b = rd' b) {nid : Nat} {ρ : Operand → AV} {o : Oper} {s d : TypeId} : convertOp P rd nid ρ o s d a = convertOp P rd' nid ρ o s d a := by
  have hc := fun sz => contents_congr (a := a) h sz
  unfold convertOp
  split <;> first
    | rfl
    | (rename_i b off len sz cap hd; have hb := h b (by simp [refs]); simp only [hb]; done)
    | (rename_i b off hd; have hb := h b (by simp [refs]); simp only [hb]; done)
    | (rename_i u b hd; have hb := h b (by simp [refs]); simp only [hb]; done)
    | simp only [hc]

theorem append_congr {rd rd' : Nat → Blk} {s x : AV} (h : ∀ b ∈ refs s ++ refs x, rd b = rd' b) {nid : Nat} {ts : Array TypeId} : appendOp P rd nid ts s x = appendOp P rd' nid ts s x := by
  have hc := fun sz => contents_congr (a := x) (fun b hb => h b (List.mem_append_right _ hb)) sz
  have ht : ∀ tok len sz cs, s = .os tok len sz cs → takeTok rd nid tok = takeTok rd' nid tok := by
    rintro tok len sz cs rfl
    cases tok with
    | none => rfl
    | some t => simp only [takeTok, h t (by simp [refs])]
  unfold appendOp
  simp only [hc]
  repeat' first | rfl | split
  all_goals first
    | rfl
    | (rw [ht _ _ _ _ rfl])
    | simp_all

theorem appendMs_congr {rd rd' : Nat → Blk} {s x : AV} (h : ∀ b ∈ refs s ++ refs x, rd b = rd' b) {nid : Nat} {ts : Array TypeId} : appendMs P rd nid ts s x = appendMs P rd' nid ts s x := by
  have hc := fun sz => contentsA_congr (a := x) (fun b hb => h b (List.mem_append_right _ hb)) sz
  have hp : ∀ sz, pureX rd sz x = pureX rd' sz x := fun sz => by unfold pureX; rw [contents_congr (a := x) (fun b hb => h b (List.mem_append_right _ hb)) sz]
  cases s with
  | ms b off len sz cap =>
    have hb := h b (by simp [refs])
    unfold appendMs
    simp only [hc, hp]
    cases off with
    | zero => cases cap <;> simp only [hb]
    | succ off => rfl
  | os tok len sz cells =>
    cases tok with
    | none =>
      unfold appendMs
      simp only [hc, hp]
    | some t =>
      unfold appendMs
      simp only [hc]
  | _ =>
    unfold appendMs
    simp only [hc]

theorem appendBoth_congr {rd rd' : Nat → Blk} {wr : Bool} {s x : AV} (h : ∀ b ∈ refs s ++ refs x, rd b = rd' b) {nid : Nat} {ts : Array TypeId} :
    (match isMs s || wr with | true => appendMs P rd nid ts (nilSl s) x | false => appendOp P rd nid ts (nilSl s) x) = (match isMs s || wr with | true => appendMs P rd' nid ts (nilSl s) x | false => appendOp P rd' nid ts (nilSl s) x) := by
  have hs : ∀ b ∈ refs (nilSl s), b ∈ refs s := by
    intro b hb
    unfold nilSl at hb
    split at hb
    · simp [refs] at hb
    · exact hb
  have h' : ∀ b ∈ refs (nilSl s) ++ refs x, rd b = rd' b := fun b hb => h b ((List.mem_append.1 hb).elim (fun q => List.mem_append_left _ (hs b q)) fun q => List.mem_append_right _ q)
  rw [appendMs_congr h', append_congr h']

theorem copy_congr {rd rd' : Nat → Blk} {d s : AV} (h : ∀ b ∈ refs d ++ refs s, rd b = rd' b) {ts : Array TypeId} : copyOp P rd ts d s = copyOp P rd' ts d s := by
  have hc := fun sz => contents_congr (a := s) (fun b hb => h b (List.mem_append_right _ hb)) sz
  have ht : ∀ b off len sz cap, d = .ms b off len sz cap → rd b = rd' b := by
    rintro b off len sz cap rfl
    exact h b (by simp [refs])
  unfold copyOp
  simp only [hc]
  repeat' first | rfl | split
  all_goals first
    | rfl
    | (rename_i h1 h2; rw [ht _ _ _ _ _ rfl] at h1; simp_all)
    | (rename_i h1; rw [ht _ _ _ _ _ rfl] at h1; simp_all)
    | simp_all

theorem lookup_congr {rd rd' : Nat → Blk} {x : AV} (h : ∀ b ∈ refs x, rd b = rd' b) {t : TypeId} {k : AV} {ok : Bool} : lookupOp P rd t x k ok = lookupOp P rd' t x k ok := by
  have hm : mapOf rd x = mapOf rd' x := by
    cases x with
    | vm b => simp only [mapOf, h b (by simp [refs])]
    | p v =>
      cases v with
      | sc v =>
        cases v with
        | map r => cases r <;> rfl
        | _ => rfl
      | _ => rfl
    | _ => rfl
  have hu : umapOf rd x = umapOf rd' x := by
    cases x with
    | vm b => simp only [umapOf, h b (by simp [refs])]
    | _ => rfl
  unfold lookupOp lookupU
  simp only [hm, hu]

theorem mapUpdate_congr {rd rd' : Nat → Blk} {x : AV} (h : ∀ b ∈ refs x, rd b = rd' b) {t : TypeId} {k v : AV} : mapUpdateOp P rd t x k v = mapUpdateOp P rd' t x k v := by
  cases x with
  | vm b =>
    have hb := h b (by simp [refs])
    cases k with
    | p u =>
      cases u with
      | sc u => simp only [mapUpdateOp, hb]
      | _ => rfl
    | agg l =>
      show mapUpdateU P rd t (.vm b) (.agg l) v = mapUpdateU P rd' t (.vm b) (.agg l) v
      unfold mapUpdateU
      generalize toV (AV.agg l) = kk
      generalize P.underlying t = tt
      cases kk with
      | none => rfl
      | some key =>
        cases tt with
        | none => rfl
        | some d => cases d <;> first
          | rfl
          | simp only [hb]
    | _ => rfl
  | _ => cases k <;> rfl

/-- What an operation makes leans on what it looks at alone. -/
theorem op1_led {rd rd' : Nat → Blk} {wr : Bool} {nid : Nat} {ρ ρ' : Operand → AV} {o : Oper} (hq : ledOp o = true) (h : ∀ x ∈ o.op.operands, ρ x = ρ' x) (hrd : ∀ b ∈ sees ρ o, rd b = rd' b) : op1 P rd wr nid ρ o = op1 P rd' wr nid ρ' o := by
  have h1 : op1 P rd wr nid ρ o = op1 P rd' wr nid ρ o := by
    obtain ⟨dst, op, type, pos, after, guard⟩ := o
    cases op <;> try rfl
    case load t a => simp only [op1, loadOp, cellsAt_congr (a := ρ a) hrd]
    case store t a v =>
      simp only [op1, storeOp]
      have hrd : ∀ b ∈ refs (ρ a), rd b = rd' b := hrd
      generalize ρ a = x at hrd ⊢
      cases x with
      | mp b off =>
        cases szOf P t with
        | none => rfl
        | some n => simp only [hrd b (by simp [refs])]
      | _ => rfl
    case convert s d x => exact convert_congr hrd
    case lookup t x i ok => exact congrArg noUpd (lookup_congr hrd)
    case mapUpdate t x k v => exact mapUpdate_congr hrd
    case insert t x k v => exact mapUpdate_congr hrd
    case next => simp [ledOp, quietOp] at hq
    case call c =>
      obtain ⟨callee, args, tys⟩ := c
      cases callee with
      | value _ => rfl
      | invoke _ _ => rfl
      | builtin b => cases b <;> first
        | rfl
        | (obtain ⟨args⟩ := args; rcases args with _ | ⟨x, _ | ⟨y, r⟩⟩ <;> rfl)
        | (obtain ⟨args⟩ := args; rcases args with _ | ⟨x, _ | ⟨y, _ | ⟨z, r⟩⟩⟩ <;> first | rfl | exact appendBoth_congr fun b hb => hrd b (by simpa [sees, refsL] using hb) | exact copy_congr fun b hb => hrd b (by simpa [sees, refsL] using hb) | exact unsafeString_congr fun b hb => hrd b (by simp [sees, refsL, hb]))
        | simp [ledOp, quietOp] at hq
    case makeMap t r => cases r <;> rfl
  rw [h1]
  cases hqq : quietOp o with
  | true => exact op1_congr hqq h
  | false =>
    simp only [ledOp, hqq, Bool.false_or] at hq
    obtain ⟨dst, op, type, pos, after, guard⟩ := o
    cases op <;> simp only [Bool.false_eq_true] at hq <;> simp only [Op.operands] at h <;> simp only [op1]
    case box t v => rw [h v (by simp)]
    case buildSlice t n ps =>
      have : ps.toList.map (fun q => (q.1, ρ q.2)) = ps.toList.map fun q => (q.1, ρ' q.2) :=
        List.map_congr_left fun q hq => by rw [h q.2 (by simp only [List.mem_toArray, List.mem_map]; exact ⟨q, hq, rfl⟩)]
      rw [this]
    case makeSlice t l c => rw [h l (by simp), h c (by simp)]
    case store t a v => rw [h a (by simp), h v (by simp)]
    case makeMap t r => cases r <;> rfl
    case lookup t x i ok => rw [h x (by simp), h i (by simp)]
    case mapUpdate t x k v => rw [h x (by simp), h k (by simp), h v (by simp)]
    case insert t x k v => rw [h x (by simp), h k (by simp), h v (by simp)]
    case call c =>
      obtain ⟨callee, args, tys⟩ := c
      cases callee with
      | value _ => simp at hq
      | invoke _ _ => simp at hq
      | builtin b =>
        simp only [Call.operands] at h
        obtain ⟨args⟩ := args
        cases b <;> simp only [Bool.false_eq_true] at hq
        all_goals
          rcases args with _ | ⟨x, _ | ⟨y, _ | ⟨z, r⟩⟩⟩ <;> first | rfl | simp only [h x (by simp), h y (by simp)] | simp only [h x (by simp)]

theorem target_congr {ρ ρ' : Operand → AV} {o : Oper} (h : ∀ x ∈ o.op.operands, ρ x = ρ' x) : target ρ o = target ρ' o := by
  obtain ⟨dst, op, type, pos, after, guard⟩ := o
  cases op <;> try rfl
  case call c =>
    obtain ⟨callee, args, tys⟩ := c
    cases callee with
    | value f =>
      simp only [Op.operands, Call.operands] at h
      have h1 : ρ f = ρ' f := h f (by simp)
      have h2 : args.toList.map ρ = args.toList.map ρ' := List.map_congr_left fun x hx => h x (by simp_all)
      simp only [target, h1, h2]
    | _ => rfl

/-! Memory that is written here and there. -/

theorem apply_len : ∀ (us : Upd) (m : Mem), (apply m us).length = m.length := apply_length

theorem apply_out : ∀ (us : Upd) (m : Mem) (b : Nat), b ∉ us.map (·.1) → (apply m us)[b]? = m[b]?
  | [], _, _, _ => rfl
  | (i, x) :: us, m, b, h => by
    simp only [List.map_cons, List.mem_cons, not_or] at h
    simp only [apply]
    rw [apply_out us _ b h.2, List.getElem?_set_ne (fun e => h.1 e.symm)]

theorem apply_in : ∀ (us : Upd) (m m' : Mem) (b : Nat), m.length = m'.length → b ∈ us.map (·.1) → (apply m us)[b]? = (apply m' us)[b]?
  | (i, x) :: us, m, m', b, hl, h => by
    simp only [apply]
    by_cases hb : b ∈ us.map (·.1)
    · exact apply_in us _ _ b (by simp [hl]) hb
    · rw [apply_out us _ b hb, apply_out us _ b hb]
      simp only [List.map_cons, List.mem_cons] at h
      have : b = i := h.resolve_right hb
      subst this
      simp only [List.getElem?_set, hl, if_true]

abbrev Did.w (d : Did) : List Nat := d.us.map (·.1)

/-- A memory behind some of the operations. -/
structure MemOf (ds : List Did) (base : Mem) (S : Nat → Prop) (M : Mem) : Prop where
  len : M.length = base.length
  out : ∀ b, (∀ j d, S j → ds[j]? = some d → b ∉ d.w) → M[b]? = base[b]?
  last : ∀ j d b, S j → ds[j]? = some d → b ∈ d.w → (∀ k e, S k → j < k → ds[k]? = some e → b ∉ e.w) → M[b]? = (apply base d.us)[b]?

theorem MemOf.nil {ds : List Did} {base : Mem} {S : Nat → Prop} (h : ∀ j, ¬ S j) : MemOf ds base S base := ⟨rfl, fun _ _ => rfl, fun j _ _ hj => absurd hj (h j)⟩

theorem MemOf.step {ds : List Did} {base M : Mem} {S S' : Nat → Prop} {i : Nat} {d : Did} (h : MemOf ds base S M) (hd : ds[i]? = some d) (hS : ∀ j, S' j ↔ S j ∨ j = i) (hi : ¬ S i)
    (hdis : ∀ j e, S j → i < j → ds[j]? = some e → ∀ b ∈ d.w, b ∉ e.w) : MemOf ds base S' (apply M d.us) := by
  refine ⟨by rw [apply_length]; exact h.len, fun b hb => ?_, fun j e b hj he hbe hl => ?_⟩
  · rw [apply_out _ _ _ (hb i d ((hS i).2 (.inr rfl)) hd)]
    exact h.out b fun j e hj he => hb j e ((hS j).2 (.inl hj)) he
  · rcases (hS j).1 hj with hj' | rfl
    · have hbd : b ∉ d.w := by
        intro q
        rcases Nat.lt_trichotomy j i with hlt | heq | hgt
        · exact hl i d ((hS i).2 (.inr rfl)) hlt hd q
        · subst heq; exact hi hj'
        · exact hdis j e hj' hgt he b q hbe
      rw [apply_out _ _ _ hbd]
      exact h.last j e b hj' he hbe fun k x hk hjk hx => hl k x ((hS k).2 (.inl hk)) hjk hx
    · rw [hd] at he; cases he
      exact apply_in _ _ _ _ h.len hbe

theorem last_of {p : Nat → Prop} {n : Nat} (hb : ∀ k, p k → k < n) : ∀ (r j : Nat), n - j = r → p j → ∃ j, p j ∧ ∀ k, p k → ¬ j < k := by
  intro r
  induction r using Nat.strongRecOn with
  | ind r ih =>
    intro j hr hj
    by_cases h : ∃ k, p k ∧ j < k
    · obtain ⟨k, hk, hjk⟩ := h
      have := hb k hk
      exact ih (n - k) (by omega) k rfl hk
    · exact ⟨j, hj, fun k hk hjk => h ⟨k, hk, hjk⟩⟩

theorem MemOf.agree {ds : List Did} {base M M' : Mem} {S T : Nat → Prop} (h : MemOf ds base S M) (h' : MemOf ds base T M') {b : Nat} (hST : ∀ j d, ds[j]? = some d → b ∈ d.w → (S j ↔ T j)) : M[b]? = M'[b]? := by
  by_cases hw : ∃ j d, S j ∧ ds[j]? = some d ∧ b ∈ d.w
  · obtain ⟨j0, d0, q1, q2, q3⟩ := hw
    obtain ⟨j, ⟨hj, d, hd, hbd⟩, hl⟩ := last_of (p := fun j => S j ∧ ∃ d, ds[j]? = some d ∧ b ∈ d.w) (n := ds.length) (fun k ⟨_, d, hd, _⟩ => (List.getElem?_eq_some_iff.1 hd).1) _ j0 rfl ⟨q1, d0, q2, q3⟩
    rw [h.last j d b hj hd hbd fun k e hk hjk he hbe => hl k ⟨hk, e, he, hbe⟩ hjk,
      h'.last j d b ((hST j d hd hbd).1 hj) hd hbd fun k e hk hjk he hbe => hl k ⟨(hST k e he hbe).2 hk, e, he, hbe⟩ hjk]
  · rw [h.out b fun j d hj hd hbd => hw ⟨j, d, hj, hd, hbd⟩, h'.out b fun j d hj hd hbd => hw ⟨j, d, (hST j d hd hbd).2 hj, hd, hbd⟩]

def memAt (m : Mem) : List Did → Mem
  | [] => m
  | d :: r => memAt (apply m d.us) r

theorem memAt_append (m : Mem) : ∀ (ds es : List Did), memAt m (ds ++ es) = memAt (memAt m ds) es
  | [], _ => rfl
  | d :: ds, es => memAt_append (apply m d.us) ds es

theorem memAt_of (ds : List Did) (base : Mem) : ∀ i, i ≤ ds.length → MemOf ds base (· < i) (memAt base (ds.take i))
  | 0, _ => MemOf.nil fun _ h => absurd h (Nat.not_lt_zero _)
  | i + 1, h => by
    have hi : i < ds.length := h
    rw [List.take_succ_eq_append_getElem hi, memAt_append]
    exact (memAt_of ds base i (by omega)).step (d := ds[i]) (List.getElem?_eq_getElem hi) (fun j => by omega) (by omega) fun j e hj hij => absurd hj (by omega)

/-! The run in the order of the text. -/

def FreeFrom (nx : Nat) (m : Mem) : Prop := ∀ i, nx ≤ i → i < m.length → m[i]? = some .free

/-- What an operation that is done makes. -/
def LDo (P : Program) (E : Env) (wr : Oper → Bool) (st : St) (nx : Nat) (o : Oper) (d : Did) (nx1 : Nat) : Prop :=
  (∃ g args v m1, target (ev E st.tm) o = some (g, args) ∧ Does P E g (renL (idx (close st.mem 0 args)) args) (pack st.mem (close st.mem 0 args)) v m1 ∧ (close st.mem 0 args).length ≤ m1.length ∧
    (∀ i ∈ close st.mem 0 args, i < nx) ∧ nx1 = nx + (m1.length - (close st.mem 0 args).length) ∧ nx1 ≤ st.mem.length ∧ d = didCall st.mem.length nx (close st.mem 0 args) v m1) ∨
  (target (ev E st.tm) o = none ∧ ledOp o = true ∧ op1 P (fun i => st.mem.getD i .dead) (wr o) nx (ev E st.tm) o = some (d.v, d.us, true) ∧ d.fp = d.w ++ (sees (ev E st.tm) o ++ cond (makes o) [nx] []) ∧
    (∀ b ∈ d.w, b < nx1) ∧ nx1 = cond (makes o) (nx + 1) nx ∧ nx1 ≤ st.mem.length ∧ d.ld = ldOf P (ev E st.tm) o d.v)

def LKind (P : Program) (E : Env) (wr : Oper → Bool) (ops : Array Oper) (st : St) (nx : Nat) (o : Oper) (d : Did) (nx1 : Nat) : Prop :=
  ((wants ops st.tm o = .yes ∨ ∃ s b want, wants ops st.tm o = .ask s b want ∧ (b == want) = true) ∧ LDo P E wr st nx o d nx1) ∨
  ((wants ops st.tm o = .no ∨ ∃ s b want, wants ops st.tm o = .ask s b want ∧ (b == want) = false) ∧ d = ⟨.tup [], [], [], fun _ _ => false⟩ ∧ nx1 = nx)

inductive LRun (P : Program) (E : Env) (wr : Oper → Bool) (ops : Array Oper) : List Oper → St → Nat → List Did → St → Nat → Prop
  | nil (st : St) (nx : Nat) : LRun P E wr ops [] st nx [] st nx
  | cons (o : Oper) (r : List Oper) (st : St) (nx : Nat) (d : Did) (nx1 : Nat) (ds : List Did) (st' : St) (nx' : Nat) (hf : fits st o.dst = true) (h : LKind P E wr ops st nx o d nx1)
      (hr : LRun P E wr ops r (put { st with mem := apply st.mem d.us } o.dst d.v) nx1 ds st' nx') : LRun P E wr ops (o :: r) st nx (d :: ds) st' nx'

theorem tellV_true {t : Option AV} {r : Option (Did × Nat × Bool)} {d : Did} {nx : Nat} (h : tellV t r = some (d, nx, true)) : r = some (d, nx, true) := by
  unfold tellV at h
  split at h
  · exact h
  · split at h
    · rename_i v d0 n0 ok
      simp only [Option.some.injEq, Prod.mk.injEq, Bool.and_eq_true] at h
      obtain ⟨rfl, rfl, h1, h2⟩ := h
      have e := eqAV_eq h2
      subst h1
      obtain ⟨v0, us, fp, ld⟩ := d0
      simp only at e
      subst e
      rfl
    · cases h

theorem ledOne_do {f rid : Nat} {O : FuncId → List AV → Mem → Option (AV × Mem)} (hO : ∀ g args m v m1, O g args m = some (v, m1) → Does P E g args m v m1) {nx nx1 : Nat} {o : Oper} {st : St} {d : Did}
    (h : ledOne P E f rid O nx o st = some (d, nx1, true)) : LDo P E (fun o => E.wr f (o.dst.getD 0)) st nx o d nx1 := by
  have h := tellV_true h
  unfold ledOne0 at h
  split at h
  · rename_i g args ht
    dsimp only at h
    split at h
    · rename_i v m1 ho
      simp only [Option.some.injEq, Prod.mk.injEq, Bool.and_eq_true] at h
      obtain ⟨rfl, rfl, h1, h2, h3⟩ := h
      exact .inl ⟨g, args, v, m1, ht, hO _ _ _ _ _ ho, Nat.le_of_ble_eq_true h1, allLt_mem h2, rfl, Nat.le_of_ble_eq_true h3, rfl⟩
    · cases h
  · rename_i ht
    split at h
    · rename_i v us ok hop
      simp only [Option.some.injEq, Prod.mk.injEq, Bool.and_eq_true] at h
      obtain ⟨rfl, rfl, rfl, h1, h2, h3⟩ := h
      exact .inr ⟨ht, h1, hop, rfl, allLt_mem h2, rfl, Nat.le_of_ble_eq_true h3, rfl⟩
    · cases h

theorem ledGo_run {f rid : Nat} {O : FuncId → List AV → Mem → Option (AV × Mem)} (hO : ∀ g args m v m1, O g args m = some (v, m1) → Does P E g args m v m1) {ops : Array Oper} : ∀ {l : List Oper} {nx nx' : Nat} {st st' : St} {ds : List Did},
    ledGo P E f rid O ops l nx st = some (st', nx', ds, true) → LRun P E (fun o => E.wr f (o.dst.getD 0)) ops l st nx ds st' nx'
  | [], nx, nx', st, st', ds, h => by
    simp only [ledGo, Option.some.injEq, Prod.mk.injEq, and_true] at h
    obtain ⟨rfl, rfl, rfl⟩ := h
    exact .nil st nx
  | o :: r, nx, nx', st, st', ds, h => by
    have skip : (match ledGo P E f rid O ops r nx (put st o.dst (.tup [])) with
      | some (st', nx', ds, ok) => some (st', nx', (⟨.tup [], [], [], fun _ _ => false⟩ : Did) :: ds, fits st o.dst && ok)
      | none => none) = some (st', nx', ds, true) → (wants ops st.tm o = .no ∨ ∃ s b want, wants ops st.tm o = .ask s b want ∧ (b == want) = false) → LRun P E (fun o => E.wr f (o.dst.getD 0)) ops (o :: r) st nx ds st' nx' := by
      intro h hw
      split at h
      · rename_i st1 nx1 ds1 ok hq
        simp only [Option.some.injEq, Prod.mk.injEq, Bool.and_eq_true] at h
        obtain ⟨rfl, rfl, rfl, h1, rfl⟩ := h
        exact .cons o r st nx _ nx _ _ _ h1 (.inr ⟨hw, rfl, rfl⟩) (ledGo_run hO hq)
      · cases h
    have doIt : (match ledOne P E f rid O nx o st with
      | some (d, nx1, ok) => match ledGo P E f rid O ops r nx1 (put { st with mem := apply st.mem d.us } o.dst d.v) with
        | some (st', nx', ds, ok') => some (st', nx', d :: ds, ok && (fits st o.dst && ok'))
        | none => none
      | none => none) = some (st', nx', ds, true) → (wants ops st.tm o = .yes ∨ ∃ s b want, wants ops st.tm o = .ask s b want ∧ (b == want) = true) → LRun P E (fun o => E.wr f (o.dst.getD 0)) ops (o :: r) st nx ds st' nx' := by
      intro h hw
      split at h
      · rename_i d nx1 ok hop
        split at h
        · rename_i st1 nx2 ds1 ok' hq
          simp only [Option.some.injEq, Prod.mk.injEq, Bool.and_eq_true] at h
          obtain ⟨rfl, rfl, rfl, rfl, h1, rfl⟩ := h
          exact .cons o r st nx d nx1 _ _ _ h1 (.inl ⟨hw, ledOne_do hO hop⟩) (ledGo_run hO hq)
        · cases h
      · cases h
    unfold ledGo at h
    dsimp only at h
    cases hw : wants ops st.tm o with
    | yes => rw [hw] at h; exact doIt h (.inl hw)
    | no => rw [hw] at h; exact skip h (.inl hw)
    | lost => rw [hw] at h; cases h
    | ask s b want =>
      rw [hw] at h
      dsimp only at h
      cases hb : b == want with
      | true => rw [hb] at h; exact doIt h (.inr ⟨s, b, want, hw, hb⟩)
      | false => rw [hb] at h; exact skip h (.inr ⟨s, b, want, hw, hb⟩)

theorem didCall_w {N nx : Nat} {ord : List Nat} {v : AV} {m1 : Mem} {b : Nat} (h : b ∈ (didCall N nx ord v m1).w) : b ∈ (didCall N nx ord v m1).fp := by
  simp only [didCall, Did.w, List.mem_map] at h ⊢
  obtain ⟨q, hq, rfl⟩ := h
  exact (List.of_mem_zip hq).1

theorem LDo.facts {wr : Oper → Bool} {st : St} {nx nx1 : Nat} {o : Oper} {d : Did} (h : LDo P E wr st nx o d nx1) : nx ≤ nx1 ∧ nx1 ≤ st.mem.length ∧ (∀ b ∈ d.w, b < nx1) ∧ ∀ b ∈ d.w, b ∈ d.fp := by
  rcases h with ⟨g, args, v, m1, _, _, h1, h2, rfl, h3, rfl⟩ | ⟨_, _, _, h1, h2, rfl, h3, _⟩
  · refine ⟨by omega, h3, fun b hb => ?_, fun b hb => didCall_w hb⟩
    have := didCall_w hb
    simp only [didCall, List.mem_append, List.mem_range'_1] at this
    rcases this with q | q
    · have := h2 b q; omega
    · omega
  · refine ⟨by cases makes o <;> simp, h3, h2, fun b hb => ?_⟩
    rw [h1]
    exact List.mem_append_left _ hb

theorem LKind.facts {wr : Oper → Bool} {ops : Array Oper} {st : St} {nx nx1 : Nat} {o : Oper} {d : Did} (h : LKind P E wr ops st nx o d nx1) (hn : nx ≤ st.mem.length) : nx ≤ nx1 ∧ nx1 ≤ st.mem.length ∧ (∀ b ∈ d.w, b < nx1) ∧ ∀ b ∈ d.w, b ∈ d.fp := by
  rcases h with ⟨_, h⟩ | ⟨_, rfl, rfl⟩
  · exact h.facts
  · exact ⟨Nat.le_refl _, hn, by simp, by simp⟩

theorem SlotsAt.remem {l : List Oper} {vs : List AV} {S S' T T' : St} {i : Nat} (h : SlotsAt l vs S i T) (h1 : S'.tm = S.tm) (h2 : S'.nt = S.nt) (h3 : S'.fix = S.fix) (h4 : T'.tm = T.tm) (h5 : T'.nt = T.nt) (h6 : T'.fix = T.fix) (h7 : T'.mem = S'.mem) : SlotsAt l vs S' i T' := by
  obtain ⟨_, q2, q3, q4, q5⟩ := h
  refine ⟨h7, by rw [h5, h2]; exact q2, by rw [h6, h3]; exact q3, ?_, ?_⟩
  · intro j p v t a b c d; rw [h4]; exact q4 j p v t a b c d
  · intro t ht; rw [h4, h1]; exact q5 t ht

theorem put_withmem (st : St) (m : Mem) (dst : Option Tmp) (v : AV) : put { st with mem := m } dst v = { put st dst v with mem := m } := by cases dst <;> rfl

theorem LRun.spec {wr : Oper → Bool} {ops : Array Oper} {l : List Oper} {st st' : St} {nx nx' : Nat} {ds : List Did} (h : LRun P E wr ops l st nx ds st' nx') (hu : Uniq l) (hn : nx ≤ st.mem.length) (hfr : FreeFrom nx st.mem) :
    ds.length = l.length ∧ SlotsAt l (ds.map (·.v)) st l.length { st' with mem := st.mem } ∧ st'.mem = memAt st.mem ds ∧ st'.mks = st.mks ∧
      ∀ (i : Nat) (o : Oper), l[i]? = some o → ∃ d sti nxi nxi1, ds[i]? = some d ∧ LKind P E wr ops sti nxi o d nxi1 ∧ fits sti o.dst = true ∧ SlotsAt l (ds.map (·.v)) st i { sti with mem := st.mem } ∧ sti.mem = memAt st.mem (ds.take i) ∧ FreeFrom nxi sti.mem ∧ nxi ≤ sti.mem.length := by
  induction h with
  | nil st nx => exact ⟨rfl, ⟨rfl, rfl, rfl, fun j _ _ _ hj => absurd hj (Nat.not_lt_zero _), fun _ _ => rfl⟩, rfl, rfl, fun i o ho => by simp at ho⟩
  | cons o r st nx d nx1 ds st' nx' hf hk hr ih =>
    have hu' : Uniq r := fun i j p q t hij hp hq => hu (i + 1) (j + 1) p q t (by omega) (by simpa using hp) (by simpa using hq)
    obtain ⟨f1, f2, f3, f4⟩ := hk.facts hn
    have hm : (put { st with mem := apply st.mem d.us } o.dst d.v).mem = apply st.mem d.us := by rw [put_withmem]
    have hfr1 : FreeFrom nx1 (apply st.mem d.us) := by
      intro i hi hl
      rw [apply_length] at hl
      rw [apply_out _ _ _ fun q => by have := f3 i q; omega]
      exact hfr i (by omega) hl
    obtain ⟨h1, h2, h3, h5, h4⟩ := ih hu' (by rw [hm, apply_length]; exact f2) (by rw [hm]; exact hfr1)
    have shift : ∀ {i : Nat} {T : St}, SlotsAt r (ds.map (·.v)) (put { st with mem := apply st.mem d.us } o.dst d.v) i { T with mem := (put { st with mem := apply st.mem d.us } o.dst d.v).mem } →
        SlotsAt (o :: r) ((d :: ds).map (·.v)) st (i + 1) { T with mem := st.mem } := by
      intro i T hs
      refine SlotsAt.cons (vs := ds.map (·.v)) (v := d.v) hu (hs.remem (S' := put st o.dst d.v) (T' := { T with mem := st.mem }) ?_ ?_ ?_ rfl rfl rfl ?_)
      · cases o.dst <;> rfl
      · cases o.dst <;> rfl
      · cases o.dst <;> rfl
      · exact (put_mem st o.dst d.v).1.symm
    refine ⟨by simp [h1], shift h2, by rw [h3, hm]; rfl, h5.trans (by cases o.dst <;> rfl), ?_⟩
    intro i p hp
    cases i with
    | zero =>
      simp only [List.getElem?_cons_zero, Option.some.injEq] at hp
      subst hp
      exact ⟨d, st, nx, nx1, rfl, hk, hf, ⟨rfl, rfl, rfl, fun j _ _ _ hj => absurd hj (Nat.not_lt_zero _), fun _ _ => rfl⟩, rfl, hfr, hn⟩
    | succ i =>
      obtain ⟨e, sti, nxi, nxi1, q1, q2, q3, q4, q5, q6, q7⟩ := h4 i p (by simpa using hp)
      refine ⟨e, sti, nxi, nxi1, by simpa using q1, q2, q3, shift q4, ?_, q6, q7⟩
      rw [q5, hm]; rfl

/-! The ledger. -/

/-- A load that stands ahead, of which the other one writes other cells. -/
def LdOk (d e : Did) : Prop := e.us = [] ∧ ∀ b ∈ d.w, b ∈ e.fp → ∃ x, lastU d.us b = some x ∧ e.ld b x = true

theorem has_of_mem : ∀ {l : List Nat} {i : Nat}, i ∈ l → has l i = true
  | j :: r, i, h => by
    simp only [has]
    cases hb : Nat.beq j i with
    | true => rfl
    | false =>
      rcases List.mem_cons.1 h with e | h
      · subst e; rw [Nat.beq_refl] at hb; cases hb
      · exact has_of_mem h

theorem ledLoad_ok {d e : Did} (h : ledLoad d e = true) : LdOk d e := by
  simp only [ledLoad, Bool.and_eq_true, List.all_eq_true] at h
  refine ⟨?_, fun b hb hf => ?_⟩
  · have h1 := h.1
    cases hu : e.us with
    | nil => rfl
    | cons _ _ => rw [hu] at h1; cases h1
  · have := h.2 b hb
    rw [has_of_mem hf, Bool.not_true, Bool.false_or] at this
    split at this
    · rename_i x hx
      exact ⟨x, hx, this⟩
    · cases this

theorem lastU_none : ∀ {us : Upd} {b : Nat}, lastU us b = none → b ∉ us.map (·.1)
  | [], _, _ => by simp
  | (i, x) :: r, b, h => by
    simp only [lastU] at h
    split at h
    · cases h
    · rename_i hr
      cases hb : Nat.beq i b with
      | true => rw [hb] at h; cases h
      | false =>
        simp only [List.map_cons, List.mem_cons, not_or]
        exact ⟨fun e => (by subst e; rw [Nat.beq_refl] at hb; cases hb), lastU_none hr⟩

theorem apply_last : ∀ {us : Upd} {m : Mem} {b : Nat} {x : Blk}, lastU us b = some x → b < m.length → (apply m us)[b]? = some x
  | (i, y) :: r, m, b, x, h, hb => by
    simp only [lastU] at h
    simp only [apply]
    split at h
    · rename_i z hz
      simp only [Option.some.injEq] at h
      subst h
      exact apply_last hz (by simpa using hb)
    · rename_i hr
      cases hib : Nat.beq i b with
      | false => rw [hib] at h; cases h
      | true =>
        rw [hib] at h
        simp only [cond_true, Option.some.injEq] at h
        subst h
        have := Nat.eq_of_beq_eq_true hib
        subst this
        rw [apply_out r _ _ (lastU_none hr), List.getElem?_set_self hb]

structure LOk (L : List Nat) (ds : List Did) : Prop where
  pair : ∀ (i j : Nat) (d e : Did), j < i → ds[i]? = some d → ds[j]? = some e → Nat.testBit (L.getD i 0) j = true ∨ ((∀ b ∈ e.w, b ∉ d.fp) ∧ ((∀ b ∈ d.w, b ∉ e.fp) ∨ LdOk d e))

theorem meet_none {a b : List Nat} (h : meet a b = false) : ∀ i ∈ a, i ∉ b := fun _ ha hb => meet_false h ha hb

theorem ledsOk_spec {L : List Nat} : ∀ {r bef : List Did}, ledsOk L bef.length bef r = true → ∀ (i j : Nat) (d e : Did), bef.length ≤ i → j < i → (bef ++ r)[i]? = some d → (bef ++ r)[j]? = some e →
    Nat.testBit (L.getD i 0) j = true ∨ ((∀ b ∈ e.w, b ∉ d.fp) ∧ ((∀ b ∈ d.w, b ∉ e.fp) ∨ LdOk d e))
  | [], bef, _, i, j, d, e, hi, _, hd, _ => by
    simp only [List.append_nil] at hd
    rw [List.getElem?_eq_none hi] at hd; cases hd
  | d0 :: r, bef, h, i, j, d, e, hi, hj, hd, he => by
    simp only [ledsOk, Bool.and_eq_true] at h
    by_cases hc : i = bef.length
    · subst hc
      have : d = d0 := by simpa using hd.symm
      subst this
      have key : ∀ (l : List Did) (k : Nat), ledPairs L bef.length d k l = true → ∀ m x, l[m]? = some x → ledPair L bef.length d (k + m) x = true := by
        intro l
        induction l with
        | nil => intro k _ m x hx; simp at hx
        | cons y l ih =>
          intro k hk m x hx
          simp only [ledPairs, Bool.and_eq_true] at hk
          cases m with
          | zero => simp only [List.getElem?_cons_zero, Option.some.injEq] at hx; subst hx; exact hk.1
          | succ m =>
            simp only [List.getElem?_cons_succ] at hx
            have := ih (k + 1) hk.2 m x hx
            rwa [Nat.add_assoc, Nat.add_comm 1 m] at this
      have he' : bef[j]? = some e := by rwa [List.getElem?_append_left hj] at he
      have := key bef 0 h.1 j e he'
      simp only [ledPair, Nat.zero_add, Bool.or_eq_true, Bool.and_eq_true, Bool.not_eq_true'] at this
      rcases this with q | ⟨q1, q2 | q2⟩
      · exact .inl q
      · exact .inr ⟨meet_none q1, .inl (meet_none q2)⟩
      · exact .inr ⟨meet_none q1, .inr (ledLoad_ok q2)⟩
    · have h' : ledsOk L (bef ++ [d0]).length (bef ++ [d0]) r = true := by simpa using h.2
      exact ledsOk_spec h' i j d e (by simp; omega) hj (by simpa using hd) (by simpa using he)

theorem reach_congr {m m' : Mem} : ∀ (f : Nat) (ord : List Nat) (k : Nat), ord.Nodup → (∀ i ∈ reach m f ord k, m.getD i .dead = m'.getD i .dead) → reach m' f ord k = reach m f ord k
  | 0, _, _, _, _ => rfl
  | f + 1, ord, k, hnd, h => by
    simp only [reach] at h ⊢
    cases hk : ord[k]? with
    | none => rfl
    | some i =>
      simp only [hk] at h
      dsimp only
      have hnd' := (addAll_spec (bRefs (m.getD i .dead)) ord hnd).1
      obtain ⟨t1, h1⟩ := (addAll_spec (bRefs (m.getD i .dead)) ord hnd).2
      obtain ⟨t2, h2⟩ := (reach_spec m f _ (k + 1) hnd').2
      have hi : m.getD i .dead = m'.getD i .dead := h i (by rw [h2, h1]; exact List.mem_append_left _ (List.mem_append_left _ (List.mem_of_getElem? hk)))
      rw [← hi]
      exact reach_congr f _ (k + 1) hnd' h

theorem close_congr {m m' : Mem} {args : List AV} (hl : m.length = m'.length) (h : ∀ i ∈ close m 0 args, m.getD i .dead = m'.getD i .dead) : close m' 0 args = close m 0 args := by
  unfold close at h ⊢
  rw [← hl]
  exact reach_congr _ _ _ (addAll_spec _ _ (upTo_nodup 0)).1 h

theorem pack_congr {m m' : Mem} {ord : List Nat} (h : ∀ i ∈ ord, m.getD i .dead = m'.getD i .dead) : pack m' ord = pack m ord := by
  unfold pack
  exact List.map_congr_left fun i hi => by rw [h i hi]

theorem backMem_apply (ρ : Nat → Option Nat) : ∀ (ord : List Nat) (m1 m : Mem), ord.length = m1.length → backMem ρ ord m1 m = apply m (ord.zip (m1.map (renB ρ)))
  | [], [], m, _ => by simp [backMem, apply]
  | i :: ord, b :: m1, m, h => by
    simp only [backMem, List.map_cons, List.zip_cons_cons, apply]
    exact backMem_apply ρ ord m1 _ (by simpa using h)
  | [], _ :: _, _, h => by simp at h
  | _ :: _, [], _, h => by simp at h

/-- A call, where its new blocks come to places that are kept for them. -/
theorem Rel.backAt {g g1 : Gh} {m m1 : Mem} {w w' : World} (h : Rel g m w) {ord R : List Nat} (hnd : (ord ++ R).Nodup) (hlt : ∀ i ∈ ord ++ R, i < m.length) (hR : ∀ i ∈ R, m[i]? = some .free)
    (h1 : Rel g1 m1 w') (hs : Stp (g.pack ord) (Am.pack m ord) w g1 m1 w') (hf : Fixed (g.pack ord) g1 ord.length) (hl : (ord ++ R).length = m1.length) :
    ∃ g', Rel g' (apply m ((ord ++ R).zip (m1.map (renB (backIdx (ord ++ R) m.length))))) w' ∧ Ext g w g' w' ∧ Stp g m w g' (apply m ((ord ++ R).zip (m1.map (renB (backIdx (ord ++ R) m.length))))) w' ∧ Renames (backIdx (ord ++ R) m.length) g1 g' := by
  have own : ∀ c, Owned (g.pack ord) (Am.pack m ord) c → Owned (g.pack (ord ++ R)) (Am.pack m (ord ++ R)) c := by
    rintro c ⟨k, b, hk, ho, hc⟩
    obtain ⟨i, hi, rfl⟩ := pack_get hk
    have hi' : (ord ++ R)[k]? = some i := by rw [List.getElem?_append_left (lt_of_get hi)]; exact hi
    refine ⟨k, renB (idx (ord ++ R)) (m.getD i .dead), ?_, by rw [renB_owns] at ho ⊢; exact ho, ?_⟩
    · simp only [Am.pack, List.getElem?_map, hi', Option.map_some]
    · simpa [Gh.pack, hi, hi'] using hc
  have hs' : Stp (g.pack (ord ++ R)) (Am.pack m (ord ++ R)) w g1 m1 w' :=
    ⟨hs.size, fun c hc hn => hs.keep c hc fun q => hn (own c q), hs.pure, fun c o p => (hs.fresh c o p).imp id fun q => q.imp (own c) id, fun c ho => (hs.owned c ho).imp (own c) id, hs.os, hs.tape, hs.output⟩
  have hf' : Fixed (g.pack (ord ++ R)) g1 (ord ++ R).length := by
    intro k c hk hc
    rcases Nat.lt_or_ge k ord.length with q | q
    · have e : (ord ++ R)[k]? = ord[k]? := List.getElem?_append_left q
      have := hf k c q (by simpa [Gh.pack, e] using hc)
      simpa [Gh.pack, e] using this
    · have e : (ord ++ R)[k]? = R[k - ord.length]? := List.getElem?_append_right q
      simp only [Gh.pack, e] at hc
      cases hr : R[k - ord.length]? with
      | none => rw [hr] at hc; cases hc
      | some i =>
        rw [hr] at hc
        simp only [Option.bind_some] at hc
        rw [h.free i (hR i (List.mem_of_getElem? hr))] at hc; cases hc
  obtain ⟨r1, r2, r3, r4⟩ := h.back hnd hlt h1 hs' hf' (by omega)
  rw [backMem_apply _ _ _ _ hl] at r1 r3
  exact ⟨_, r1, r2, r3, r4⟩

theorem get_getD {m m' : Mem} {i : Nat} (h : m[i]? = m'[i]?) : m.getD i .dead = m'.getD i .dead := by
  rw [List.getD_eq_getElem?_getD, List.getD_eq_getElem?_getD, h]

end
end Go.Am
