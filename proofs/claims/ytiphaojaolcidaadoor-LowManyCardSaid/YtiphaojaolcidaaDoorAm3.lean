/-
  What the executor's values and memory say of the model's: the relations, and that they last. (Plain facts on worlds; no operation yet.)
-/
import Derived.Test.YtiphaojaolcidaaDoorAm2
namespace Go.Am
open Go.RowKit

/-- Where the executor's blocks lie, where a slice's spare room lies, and which cells pure values lean on. -/
structure Gh where
  blk : Nat → Option Nat
  lo : Nat → Nat
  hi : Nat → Nat
  pure : Nat → Nat → Prop

def All2 {α β : Type} (r : α → β → Prop) : List α → List β → Prop
  | [], [] => True
  | a :: l, b :: m => r a b ∧ All2 r l m
  | _, _ => False

section all2
variable {α β γ : Type} {r : α → β → Prop}

theorem All2.len : ∀ {l : List α} {m : List β}, All2 r l m → l.length = m.length
  | [], [], _ => rfl
  | _ :: _, _ :: _, h => congrArg (· + 1) (All2.len h.2)
  | [], _ :: _, h => h.elim
  | _ :: _, [], h => h.elim

theorem All2.mono {s : α → β → Prop} (hrs : ∀ a b, r a b → s a b) : ∀ {l : List α} {m : List β}, All2 r l m → All2 s l m
  | [], [], _ => trivial
  | _ :: _, _ :: _, h => ⟨hrs _ _ h.1, All2.mono hrs h.2⟩
  | [], _ :: _, h => h.elim
  | _ :: _, [], h => h.elim

theorem All2.mem {s : α → β → Prop} : ∀ {l : List α} {m : List β}, (∀ a b, a ∈ l → r a b → s a b) → All2 r l m → All2 s l m
  | [], [], _, _ => trivial
  | _ :: _, _ :: _, hrs, h => ⟨hrs _ _ (.head _) h.1, All2.mem (fun a b ha => hrs a b (.tail _ ha)) h.2⟩
  | [], _ :: _, _, h => h.elim
  | _ :: _, [], _, h => h.elim

theorem All2.get : ∀ {l : List α} {m : List β}, All2 r l m → ∀ i (h : i < l.length) (h' : i < m.length), r l[i] m[i]
  | _ :: _, _ :: _, h, 0, _, _ => h.1
  | _ :: _, _ :: _, h, i + 1, hi, hj => All2.get h.2 i (Nat.lt_of_succ_lt_succ hi) (Nat.lt_of_succ_lt_succ hj)
  | [], [], _, _, h, _ => absurd h (Nat.not_lt_zero _)
  | [], _ :: _, h, _, _, _ => h.elim
  | _ :: _, [], h, _, _, _ => h.elim

theorem All2.of_get : ∀ {l : List α} {m : List β}, l.length = m.length → (∀ i (h : i < l.length) (h' : i < m.length), r l[i] m[i]) → All2 r l m
  | [], [], _, _ => trivial
  | _ :: _, _ :: _, hl, h => ⟨h 0 (Nat.zero_lt_succ _) (Nat.zero_lt_succ _), All2.of_get (Nat.succ.inj hl) fun i hi hj => h (i + 1) (Nat.succ_lt_succ hi) (Nat.succ_lt_succ hj)⟩
  | [], _ :: _, hl, _ => Nat.noConfusion hl
  | _ :: _, [], hl, _ => Nat.noConfusion hl

theorem All2.append : ∀ {l l' : List α} {m m' : List β}, All2 r l m → All2 r l' m' → All2 r (l ++ l') (m ++ m')
  | [], _, [], _, _, h => h
  | _ :: _, _, _ :: _, _, h, h' => ⟨h.1, All2.append h.2 h'⟩
  | [], _, _ :: _, _, h, _ => h.elim
  | _ :: _, _, [], _, h, _ => h.elim

theorem All2.drop : ∀ {l : List α} {m : List β} (n : Nat), All2 r l m → All2 r (l.drop n) (m.drop n)
  | _, _, 0, h => h
  | [], [], _ + 1, _ => trivial
  | _ :: _, _ :: _, n + 1, h => All2.drop n h.2
  | [], _ :: _, _ + 1, h => h.elim
  | _ :: _, [], _ + 1, h => h.elim

theorem All2.take : ∀ {l : List α} {m : List β} (n : Nat), All2 r l m → All2 r (l.take n) (m.take n)
  | [], [], 0, _ => trivial
  | _ :: _, _ :: _, 0, _ => trivial
  | [], [], _ + 1, _ => trivial
  | _ :: _, _ :: _, n + 1, h => ⟨h.1, All2.take n h.2⟩
  | [], _ :: _, _, h => h.elim
  | _ :: _, [], _, h => h.elim

theorem All2.set : ∀ {l : List α} {m : List β} (n : Nat) {a : α} {b : β}, All2 r l m → r a b → All2 r (l.set n a) (m.set n b)
  | [], [], _, _, _, _, _ => trivial
  | _ :: _, _ :: _, 0, _, _, h, hab => ⟨hab, h.2⟩
  | _ :: _, _ :: _, n + 1, _, _, h, hab => ⟨h.1, All2.set n h.2 hab⟩
  | [], _ :: _, _, _, _, h, _ => h.elim
  | _ :: _, [], _, _, _, h, _ => h.elim

theorem All2.mapL {s : γ → β → Prop} (f : α → γ) (h : ∀ a b, r a b → s (f a) b) : ∀ {l : List α} {m : List β}, All2 r l m → All2 s (l.map f) m
  | [], [], _ => trivial
  | _ :: _, _ :: _, k => ⟨h _ _ k.1, All2.mapL f h k.2⟩
  | [], _ :: _, k => k.elim
  | _ :: _, [], k => k.elim

theorem All2.mapR {s : α → γ → Prop} (f : β → γ) (h : ∀ a b, r a b → s a (f b)) : ∀ {l : List α} {m : List β}, All2 r l m → All2 s l (m.map f)
  | [], [], _ => trivial
  | _ :: _, _ :: _, k => ⟨h _ _ k.1, All2.mapR f h k.2⟩
  | [], _ :: _, k => k.elim
  | _ :: _, [], k => k.elim

theorem All2.get? {l : List α} {m : List β} (h : All2 r l m) {i : Nat} {a : α} (ha : l[i]? = some a) : ∃ b, m[i]? = some b ∧ r a b := by
  obtain ⟨hi, rfl⟩ := List.getElem?_eq_some_iff.1 ha
  have hm := h.len
  exact ⟨m[i], List.getElem?_eq_getElem (by omega), h.get i hi (by omega)⟩

theorem All2.getD {l : List α} {m : List β} (h : All2 r l m) {i : Nat} (hi : i < l.length) (d : α) (e : β) : r (l.getD i d) (m.getD i e) := by
  have hm := h.len
  rw [List.getD_eq_getElem?_getD, List.getD_eq_getElem?_getD, List.getElem?_eq_getElem hi, List.getElem?_eq_getElem (by omega : i < m.length)]
  exact h.get i hi (by omega)
end all2

inductive VP (g : Gh) (w : World) : PV → Value → Prop
  | sc (v : Value) : VP g w (.sc v) v
  | pp (off : Nat) (cells : List PV) (b o : Nat) (f : Nat → Value) (hp : ∀ k, k < cells.length → g.pure b (o + k) ∧ w.cell? ⟨b, o + k, none⟩ = some (f k) ∧ (f k).oneCell' = true)
      (hv : ∀ k (h : k < cells.length), VP g w cells[k] (f k)) : VP g w (.pp off cells) (.pointer (some ⟨b, o + off, none⟩))
  | ps (len sz : Nat) (cells : List PV) (b o cap : Nat) (f : Nat → Value) (hl : cells.length = len * sz) (hc : len ≤ cap) (hz : 1 ≤ sz)
      (hp : ∀ k, k < cells.length → g.pure b (o + k) ∧ w.cell? ⟨b, o + k, none⟩ = some (f k) ∧ (f k).oneCell' = true)
      (hv : ∀ k (h : k < cells.length), VP g w cells[k] (f k)) : VP g w (.ps len sz cells) (.slice (some ⟨b, o, none⟩) len cap)
  | psE (sz : Nat) (a : Option Addr) (cap : Nat) (hz : 1 ≤ sz ∨ (a = none ∧ cap = 0)) : VP g w (.ps 0 sz []) (.slice a 0 cap)
  | ifc (t : TypeId) (v : PV) (cv : Value) (h : VP g w v cv) : VP g w (.ifc t v) (.iface t cv)

inductive VA (g : Gh) (w : World) : AV → Value → Prop
  | junk (v : Value) : VA g w .junk v
  | p (v : PV) (cv : Value) (h : VP g w v cv) : VA g w (.p v) cv
  | os (tok : Option Nat) (len sz : Nat) (cells : List PV) (a : Option Addr) (cap : Nat) (h : VP g w (.ps len sz cells) (.slice a len cap))
      (hr : cap = len ∨ ∃ t b o, tok = some t ∧ a = some ⟨b, o, none⟩ ∧ g.blk t = some b ∧ g.lo t = o + len * sz ∧ g.hi t = o + cap * sz ∧ len ≤ cap) : VA g w (.os tok len sz cells) (.slice a len cap)
  | mp (b off c : Nat) (h : g.blk b = some c) : VA g w (.mp b off) (.pointer (some ⟨c, off, none⟩))
  | ms (b off len sz cap c : Nat) (h : g.blk b = some c) (hc : len ≤ cap) : VA g w (.ms b off len sz (some cap)) (.slice (some ⟨c, off, none⟩) len cap)
  | mg (b off len sz cap c : Nat) (h : g.blk b = some c) (hc : len ≤ cap) (hh : off + cap * sz ≤ g.hi b) : VA g w (.ms b off len sz none) (.slice (some ⟨c, off, none⟩) len cap)
  | fn (f : Fn) (l k : List AV) (fa ca : Array Value) (hl : l.length = fa.toList.length) (hk : k.length = ca.toList.length)
      (h : ∀ i (h : i < l.length) (h' : i < fa.toList.length), VA g w l[i] fa.toList[i]) (h2 : ∀ i (h : i < k.length) (h' : i < ca.toList.length), VA g w k[i] ca.toList[i]) : VA g w (.fn f l k) (.func f fa ca)
  | agg (l : List AV) (cs : Array Value) (hl : l.length = cs.toList.length) (h : ∀ i (h : i < l.length) (h' : i < cs.toList.length), VA g w l[i] cs.toList[i]) : VA g w (.agg l) (.agg cs)
  | tup (l : List AV) (cs : Array Value) (hl : l.length = cs.toList.length) (h : ∀ i (h : i < l.length) (h' : i < cs.toList.length), VA g w l[i] cs.toList[i]) : VA g w (.tup l) (.tuple cs)
  | ifc (t : TypeId) (v : AV) (cv : Value) (h : VA g w v cv) : VA g w (.ifc t v) (.iface t cv)
  | vm (b c : Nat) (h : g.blk b = some c) : VA g w (.vm b) (.map (some c))
  | vy (b c : Nat) (h : g.blk b = some c) : VA g w (.vy b) (.func (.yield c) #[] #[])

abbrev VAs (g : Gh) (w : World) : List AV → List Value → Prop := All2 (VA g w)
abbrev VPs (g : Gh) (w : World) : List PV → List Value → Prop := All2 (VP g w)

theorem VA.aggs {g : Gh} {w : World} {l : List AV} {cs : Array Value} : VA g w (.agg l) (.agg cs) ↔ VAs g w l cs.toList :=
  ⟨fun h => by cases h with | agg _ _ hl h => exact All2.of_get hl h, fun h => .agg l cs h.len fun i a b => h.get i a b⟩

theorem VA.tups {g : Gh} {w : World} {l : List AV} {cs : Array Value} : VA g w (.tup l) (.tuple cs) ↔ VAs g w l cs.toList :=
  ⟨fun h => by cases h with | tup _ _ hl h => exact All2.of_get hl h, fun h => .tup l cs h.len fun i a b => h.get i a b⟩

theorem VA.pv {g : Gh} {w : World} {v : PV} {cv : Value} : VA g w (.p v) cv ↔ VP g w v cv :=
  ⟨fun h => by cases h with | p _ _ h => exact h, .p v cv⟩

theorem VA.fns {g : Gh} {w : World} {f : Fn} {l k : List AV} {cv : Value} : VA g w (.fn f l k) cv ↔ ∃ fa ca : Array Value, cv = .func f fa ca ∧ VAs g w l fa.toList ∧ VAs g w k ca.toList :=
  ⟨fun h => by cases h with | fn _ _ _ fa ca hl hk h h2 => exact ⟨fa, ca, rfl, All2.of_get hl h, All2.of_get hk h2⟩,
   fun ⟨fa, ca, e, h, h2⟩ => e ▸ .fn f l k fa ca h.len h2.len (fun i a b => h.get i a b) fun i a b => h2.get i a b⟩

theorem VP.bad {g : Gh} {w : World} {cv : Value} (h : VP g w .bad cv) : False := by cases h

/-- What values lean on lasts. -/
structure Ext (g : Gh) (w : World) (g' : Gh) (w' : World) : Prop where
  blk : ∀ i c, g.blk i = some c → g'.blk i = some c ∧ g'.lo i = g.lo i ∧ g'.hi i = g.hi i
  pure : ∀ c o, g.pure c o → g'.pure c o ∧ w'.cell? ⟨c, o, none⟩ = w.cell? ⟨c, o, none⟩

theorem Ext.refl (g : Gh) (w : World) : Ext g w g w := ⟨fun _ _ h => ⟨h, rfl, rfl⟩, fun _ _ h => ⟨h, rfl⟩⟩

theorem Ext.trans {g g' g'' : Gh} {w w' w'' : World} (h : Ext g w g' w') (k : Ext g' w' g'' w'') : Ext g w g'' w'' :=
  ⟨fun i c e => ⟨(k.blk i c (h.blk i c e).1).1, (k.blk i c (h.blk i c e).1).2.1.trans (h.blk i c e).2.1, (k.blk i c (h.blk i c e).1).2.2.trans (h.blk i c e).2.2⟩,
   fun c o e => ⟨(k.pure c o (h.pure c o e).1).1, (k.pure c o (h.pure c o e).1).2.trans (h.pure c o e).2⟩⟩

theorem VP.mono {g g' : Gh} {w w' : World} (e : ∀ c o, g.pure c o → g'.pure c o ∧ w'.cell? ⟨c, o, none⟩ = w.cell? ⟨c, o, none⟩) {v : PV} {cv : Value} (h : VP g w v cv) : VP g' w' v cv := by
  induction h with
  | sc v => exact .sc v
  | pp off cells b o f hp hv ih => exact .pp off cells b o f (fun k hk => ⟨(e _ _ (hp k hk).1).1, (e _ _ (hp k hk).1).2.trans (hp k hk).2.1, (hp k hk).2.2⟩) ih
  | ps len sz cells b o cap f hl hc hz hp hv ih => exact .ps len sz cells b o cap f hl hc hz (fun k hk => ⟨(e _ _ (hp k hk).1).1, (e _ _ (hp k hk).1).2.trans (hp k hk).2.1, (hp k hk).2.2⟩) ih
  | psE sz a cap hz => exact .psE sz a cap hz
  | ifc t v cv h ih => exact .ifc t v cv ih

theorem VA.mono {g g' : Gh} {w w' : World} (e : Ext g w g' w') {v : AV} {cv : Value} (h : VA g w v cv) : VA g' w' v cv := by
  induction h with
  | junk v => exact .junk v
  | p v cv h => exact .p v cv (h.mono e.pure)
  | os tok len sz cells a cap h hr =>
    refine .os tok len sz cells a cap (h.mono e.pure) (hr.imp id ?_)
    rintro ⟨t, b, o, rfl, rfl, hb, hlo, hhi, hc⟩
    exact ⟨t, b, o, rfl, rfl, (e.blk t b hb).1, (e.blk t b hb).2.1.trans hlo, (e.blk t b hb).2.2.trans hhi, hc⟩
  | mp b off c h => exact .mp b off c (e.blk b c h).1
  | ms b off len sz cap c h hc => exact .ms b off len sz cap c (e.blk b c h).1 hc
  | mg b off len sz cap c h hc hh => exact .mg b off len sz cap c (e.blk b c h).1 hc (by rw [(e.blk b c h).2.2]; exact hh)
  | fn f l k fa ca hl hk h h2 ih ih2 => exact .fn f l k fa ca hl hk ih ih2
  | agg l cs hl h ih => exact .agg l cs hl ih
  | tup l cs hl h ih => exact .tup l cs hl ih
  | ifc t v cv h ih => exact .ifc t v cv ih
  | vm b c h => exact .vm b c (e.blk b c h).1
  | vy b c h => exact .vy b c (e.blk b c h).1

theorem VAs.mono {g g' : Gh} {w w' : World} (e : Ext g w g' w') {l : List AV} {cs : List Value} (h : VAs g w l cs) : VAs g' w' l cs := All2.mono (fun _ _ => VA.mono e) h

/-- Cells that hold values, each of one cell. -/
def CAs (g : Gh) (w : World) (l : List AV) (cs : List Value) : Prop := VAs g w l cs ∧ ∀ v ∈ cs, v.oneCell' = true

theorem CAs.mono {g g' : Gh} {w w' : World} (e : Ext g w g' w') {l : List AV} {cs : List Value} (h : CAs g w l cs) : CAs g' w' l cs := ⟨h.1.mono e, h.2⟩

def Blk.cells? : Blk → Option (List AV)
  | .pc l => some (l.map .p)
  | .ac l => some l
  | _ => none

def Blk.owns : Blk → Bool
  | .pc _ | .ac _ | .tok | .ob .. => true
  | _ => false

def Owned (g : Gh) (m : Mem) (c : Nat) : Prop := ∃ i b, m[i]? = some b ∧ b.owns = true ∧ g.blk i = some c

/-- A map's entries. -/
def entriesOf : List Value → List Value → List Nat → List MapEntry
  | k :: ks, v :: vs, b :: bs => { key := k, val := v, born := b } :: entriesOf ks vs bs
  | _, _, _ => []

/-- What the heap holds there. -/
def ObK.is : ObK → Obj → List Value → Prop
  | .map keys borns clock, ob, vs => ob = .map (entriesOf keys vs borns).toArray clock
  | .defd, ob, vs => ob = .deferred (some []) ∧ vs = []
  | .shut, ob, vs => ob = .deferred none ∧ vs = []
  | .opq, _, vs => vs = []
  | .gr t _, ob, vs => ∃ cs e n, ob = .cells cs e n ∧ e = t ∧ n.2 ≤ n.1 ∧ vs = cs.toList.take vs.length ∧ vs.length ≤ cs.size ∧ ∀ v ∈ cs.toList, v.oneCell' = true
  | .iter s pos, ob, vs => ob = .stringIter s pos ∧ vs = []
  | .umap keys, ob, vs => ∃ es clock bs, ob = .map es clock ∧ keys.length = vs.length ∧ bs.length = vs.length ∧ es.toList.Perm (entriesOf keys vs bs)
  | .loop f ps a b st pd, ob, vs => ∃ D, ob = .loop { state := st, pending := pd, fn := f, tmps := vs.toArray, params := ps, assign := a, body := b, defers := D }

/-- How many cells there are in all. -/
def ObK.room : ObK → Obj → Nat → Prop
  | .gr _ _, .cells cs _ _, h => cs.size = h
  | _, _, _ => True

structure Rel (g : Gh) (m : Mem) (w : World) : Prop where
  far : ∀ i, m.length ≤ i → g.blk i = none
  free : ∀ i, m[i]? = some .free → g.blk i = none
  cells : ∀ i b l, m[i]? = some b → b.cells? = some l → ∃ c cs e n, g.blk i = some c ∧ w.heap[c]? = some (.cells cs e n) ∧ n.2 ≤ n.1 ∧ CAs g w l cs.toList ∧ ∀ o, ¬ g.pure c o
  tok : ∀ i c, m[i]? = some .tok → g.blk i = some c → ∃ cs e n, w.heap[c]? = some (.cells cs e n) ∧ g.hi i ≤ cs.size ∧ (n.2 ≤ n.1 ∨ g.hi i ≤ n.1) ∧ ∀ o, g.lo i ≤ o → o < g.hi i → ¬ g.pure c o
  inj : ∀ i j b b' c, m[i]? = some b → m[j]? = some b' → b.owns = true → b'.owns = true → g.blk i = some c → g.blk j = some c → i = j
  there : ∀ c o, g.pure c o → ∃ v, w.cell? ⟨c, o, none⟩ = some v
  obs : ∀ i k l, m[i]? = some (.ob k l) → ∃ c ob vs, g.blk i = some c ∧ w.heap[c]? = some ob ∧ VAs g w l vs ∧ k.is ob vs ∧ (∀ o, ¬ g.pure c o) ∧ k.room ob (g.hi i)

theorem Rel.owned_lt {g : Gh} {m : Mem} {w : World} (h : Rel g m w) {c : Nat} (ho : Owned g m c) : c < w.heap.size := by
  obtain ⟨i, b, hi, hb, hc⟩ := ho
  have lt : ∀ {o : Obj}, w.heap[c]? = some o → c < w.heap.size := fun e => by
    rcases Nat.lt_or_ge c w.heap.size with h | h
    · exact h
    · simp [Array.getElem?_eq_none h] at e
  cases b with
  | free => simp [Blk.owns] at hb
  | dead => simp [Blk.owns] at hb
  | pc l => obtain ⟨c', cs, e, n, h1, h2, _⟩ := h.cells i _ _ hi rfl; rw [hc] at h1; cases h1; exact lt h2
  | ac l => obtain ⟨c', cs, e, n, h1, h2, _⟩ := h.cells i _ _ hi rfl; rw [hc] at h1; cases h1; exact lt h2
  | tok => obtain ⟨cs, e, n, h2, _⟩ := h.tok i c hi hc; exact lt h2
  | ob k l => obtain ⟨c', ob, vs, h1, h2, _⟩ := h.obs i _ _ hi; rw [hc] at h1; cases h1; exact lt h2

theorem Rel.pure_lt {g : Gh} {m : Mem} {w : World} (h : Rel g m w) {c o : Nat} (hp : g.pure c o) : c < w.heap.size := by
  obtain ⟨v, hv⟩ := h.there c o hp
  exact World.block_lt_of_cell? (h := hv)

/-- What a run does to the world, beside what is told by values. -/
structure Stp (g : Gh) (m : Mem) (w : World) (g' : Gh) (m' : Mem) (w' : World) : Prop where
  size : w.heap.size ≤ w'.heap.size
  keep : ∀ c, c < w.heap.size → ¬ Owned g m c → w'.heap[c]? = w.heap[c]?
  pure : ∀ c o, g.pure c o → g'.pure c o ∧ w'.cell? ⟨c, o, none⟩ = w.cell? ⟨c, o, none⟩
  fresh : ∀ c o, g'.pure c o → g.pure c o ∨ Owned g m c ∨ w.heap.size ≤ c
  owned : ∀ c, Owned g' m' c → Owned g m c ∨ w.heap.size ≤ c
  os : w'.os = w.os
  tape : w'.tape = w.tape
  output : w'.output = w.output

theorem Stp.refl (g : Gh) (m : Mem) (w : World) : Stp g m w g m w := ⟨Nat.le_refl _, fun _ _ _ => rfl, fun _ _ h => ⟨h, rfl⟩, fun _ _ h => .inl h, fun _ h => .inl h, rfl, rfl, rfl⟩

theorem Stp.trans {g g' g'' : Gh} {m m' m'' : Mem} {w w' w'' : World} (h : Stp g m w g' m' w') (k : Stp g' m' w' g'' m'' w'') : Stp g m w g'' m'' w'' where
  size := Nat.le_trans h.size k.size
  keep c hc hn := (k.keep c (Nat.lt_of_lt_of_le hc h.size) fun ho => (h.owned c ho).elim hn fun hh => absurd hc (Nat.not_lt.2 hh)).trans (h.keep c hc hn)
  pure c o hp := ⟨(k.pure c o (h.pure c o hp).1).1, (k.pure c o (h.pure c o hp).1).2.trans (h.pure c o hp).2⟩
  fresh c o hp := by
    rcases k.fresh c o hp with h1 | h1 | h1
    · exact h.fresh c o h1
    · exact .inr (h.owned c h1)
    · exact .inr (.inr (Nat.le_trans h.size h1))
  owned c ho := by
    rcases k.owned c ho with h1 | h1
    · exact h.owned c h1
    · exact .inr (Nat.le_trans h.size h1)
  os := k.os.trans h.os
  tape := k.tape.trans h.tape
  output := k.output.trans h.output

/-- Less memory, and the same otherwise. -/
theorem Stp.less {g : Gh} {m m' : Mem} {w : World} (h : ∀ c, Owned g m' c → Owned g m c) : Stp g m w g m' w :=
  ⟨Nat.le_refl _, fun _ _ _ => rfl, fun _ _ h => ⟨h, rfl⟩, fun _ _ h => .inl h, fun c ho => .inl (h c ho), rfl, rfl, rfl⟩

end Go.Am
