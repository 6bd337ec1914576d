/-
  Regions whose order is open, where operations call functions, and write memory: every order that may be drawn.
-/
import Derived.Test.YtiphaojaolcidaaDoorAm16c
namespace Go.Am
open Go.RowKit

section
variable {P : Program} {E : Env}

theorem memAt_length : ∀ (ds : List Did) (m : Mem), (memAt m ds).length = m.length
  | [], _ => rfl
  | d :: ds, m => by rw [memAt, memAt_length ds, apply_length]

/-- What is told of the operations that are done in open order: of the first m. -/
structure LSpec (P : Program) (E : Env) (wr : Oper → Bool) (ops : Array Oper) (m : Nat) (st0 : St) (ds : List Did) (st' : St) : Prop where
  len : ds.length = ops.toList.length
  ends : SlotsAt ops.toList (ds.map (·.v)) st0 m { st' with mem := st0.mem }
  mem : st'.mem = memAt st0.mem (ds.take m)
  each : ∀ (i : Nat) (o : Oper), ops.toList[i]? = some o → i < m → ∃ d sti nxi nxi1, ds[i]? = some d ∧ LKind P E wr ops sti nxi o d nxi1 ∧ fits sti o.dst = true ∧ SlotsAt ops.toList (ds.map (·.v)) st0 i { sti with mem := st0.mem } ∧ sti.mem = memAt st0.mem (ds.take i) ∧ FreeFrom nxi sti.mem ∧ nxi ≤ sti.mem.length
  dum : ∀ (i : Nat) (e : Did), m ≤ i → ds[i]? = some e → e.us = []

theorem QInv.ends' {ops : Array Oper} {L : List Nat} {vs : List AV} {st0 stA : St} {S : Array Bool} (hI : QInv ops L vs st0 stA S) (hl : vs.length = ops.toList.length) {st' : St} {m : Nat} (hst : SlotsAt ops.toList vs st0 m st') (hall : ∀ i, i < m → S.getD i false = true) (hnot : ∀ i, m ≤ i → S.getD i false = false) :
    stA.mem = st'.mem ∧ stA.nt = st'.nt ∧ stA.fix = st'.fix ∧ ∀ t, look stA.tm t = look st'.tm t := by
  obtain ⟨h1, h2, h3, hA, hB⟩ := hst
  have lt : ∀ j, S.getD j false = true → j < m := fun j hj => by
    rcases Nat.lt_or_ge j m with q | q
    · exact q
    · rw [hnot j q] at hj; cases hj
  refine ⟨hI.mem.trans h1.symm, hI.nt.trans h2.symm, hI.fix.trans h3.symm, fun t => ?_⟩
  by_cases hw : ∃ (j : Nat) (p : Oper), j < m ∧ ops.toList[j]? = some p ∧ p.dst = some t
  · obtain ⟨j, p, hj, hp, hd⟩ := hw
    have hjl := (List.getElem?_eq_some_iff.1 hp).1
    have hjv : vs[j]? = some vs[j] := List.getElem?_eq_getElem (by rw [hl]; exact hjl)
    rw [hI.a j p _ t (hall j hj) hp hjv hd, hA j p _ t hj hp hjv hd]
  · rw [hI.b t fun k q hk hq hd => hw ⟨k, q, lt k hk, hq, hd⟩, hB t fun k q hk hq hd => hw ⟨k, q, hk, hq, hd⟩]

theorem go_done {ops : Array Oper} {S : Array Bool} (h : ∀ i, i < ops.size → S.getD i false = true) (hs : S.size = ops.size) (fuel t : Nat) : Region.linearise.go .any ops fuel t S [] = [] := by
  cases fuel with
  | zero => rfl
  | succ fuel =>
    have hr : Region.ready .any ops S = [] := by
      cases hr : Region.ready .any ops S with
      | nil => rfl
      | cons x xs =>
        have hx : x ∈ Region.ready .any ops S := by rw [hr]; exact .head _
        obtain ⟨h1, o, ho, _⟩ := mem_ready.1 hx
        have hlt := (Array.getElem?_eq_some_iff.1 ho).1
        have := h x hlt
        rw [getD_getD (by omega) false true, h1] at this
        cases this
    simp only [Region.linearise.go]
    show (match (Region.ready .any ops S)[t % (Region.ready .any ops S).length]? with
      | some i => Region.linearise.go .any ops fuel (t / (Region.ready .any ops S).length) (S.setIfInBounds i true) [i]
      | none => [].reverse) = []
    rw [hr]
    rfl

theorem led_any {b : Frame} {k : List Item} (cs : List Frame) {ops : Array Oper} {L : List Nat} {ds : List Did} {st0 st' : St} {m : Nat} {wr : Oper → Bool} (hO : QOrd ops L) (hL : LOk L ds) (hrun : LSpec P E wr ops m st0 ds st')
    (hm : m = ops.size ∨ (m + 1 = ops.size ∧ ∀ j, j < m → Nat.testBit (L.getD m 0) j = true)) : ∀ (fuel t : Nat) (S : Array Bool) (stA : St) (a : Act) (g : Gh) (w : World) (u : List Nat),
      QInv ops L (ds.map (·.v)) st0 { stA with mem := st0.mem } S → MemOf ds st0.mem (fun j => S.getD j false = true) stA.mem → SRel E g stA a w → u.length = fuel → (∀ i, i < ops.size → S.getD i false = false → i ∈ u) → (∀ i, m ≤ i → S.getD i false = false) →
      ∃ g' a' w', Steps P (lone (b.atR a (.inRegion ops (Region.linearise.go .any ops fuel t S []) :: k)) cs w) (lone (b.atR a' (.inRegion ops (List.range' m (ops.size - m)) :: k)) cs w') ∧ a'.defers = a.defers ∧ SRel E g' st' a' w' ∧
        Stp g stA.mem w g' st'.mem w' ∧ Fixed g g' st0.fix ∧ ∀ i c, g.blk i = some c → g'.blk i = some c := by
  obtain ⟨hdl, hend, hmem, hspec, hdum⟩ := hrun
  have hl : (ds.map (·.v)).length = ops.toList.length := by simpa using hdl
  have hdl' : ds.length = ops.size := by simpa using hdl
  have hmle : m ≤ ops.size := by omega
  have fin : ∀ (S : Array Bool) (stA : St) (a : Act) (g : Gh) (w : World), QInv ops L (ds.map (·.v)) st0 { stA with mem := st0.mem } S → MemOf ds st0.mem (fun j => S.getD j false = true) stA.mem → SRel E g stA a w →
      (∀ i, i < m → S.getD i false = true) → (∀ i, m ≤ i → S.getD i false = false) → SRel E g st' a w ∧ stA.mem = st'.mem := by
    intro S stA a g w hI hM hs hall hnot
    obtain ⟨_, e2, e3, e4⟩ := hI.ends' hl hend hall hnot
    have hm : stA.mem = st'.mem := by
      apply List.ext_getElem?
      intro i
      rw [hmem]
      have h2 := memAt_of ds st0.mem m (by omega)
      refine hM.agree h2 fun j d hd _ => ?_
      refine ⟨fun hS => ?_, fun hj => hall j hj⟩
      rcases Nat.lt_or_ge j m with q | q
      · exact q
      · rw [hnot j q] at hS; cases hS
    exact ⟨hs.same hm e2 e3 e4, hm⟩
  have full : ∀ (S : Array Bool), (∀ i, i < ops.size → S.getD i false = true) → (∀ i, m ≤ i → S.getD i false = false) → m = ops.size := by
    intro S h1 h2
    rcases hm with q | ⟨q, _⟩
    · exact q
    · have := h1 m (by omega); rw [h2 m (Nat.le_refl _)] at this; cases this
  intro fuel
  induction fuel with
  | zero =>
    intro t S stA a g w u hI hM hs hul hu hnot
    have hall : ∀ i, i < ops.size → S.getD i false = true := by
      intro i hi
      cases hq : S.getD i false with
      | true => rfl
      | false =>
        have := hu i hi hq
        rw [List.eq_nil_of_length_eq_zero hul] at this; cases this
    have hms := full S hall hnot
    obtain ⟨h1, h2⟩ := fin S stA a g w hI hM hs (fun i hi => hall i (by omega)) hnot
    refine ⟨g, a, w, ?_, rfl, h1, by rw [h2]; exact Stp.refl _ _ _, Fixed.refl _ _, fun _ _ h => h⟩
    rw [hms, Nat.sub_self, List.range'_zero]
    exact Steps.refl _ _
  | succ fuel ih =>
    intro t S stA a g w u hI hM hs hul hu hnot
    simp only [Region.linearise.go]
    show ∃ g' a' w', Steps P (lone (b.atR a (.inRegion ops (match (Region.ready .any ops S)[t % (Region.ready .any ops S).length]? with
      | some i => Region.linearise.go .any ops fuel (t / (Region.ready .any ops S).length) (S.setIfInBounds i true) [i]
      | none => [].reverse) :: k)) cs w) (lone (b.atR a' (.inRegion ops (List.range' m (ops.size - m)) :: k)) cs w') ∧ _
    cases hi : (Region.ready .any ops S)[t % (Region.ready .any ops S).length]? with
    | none =>
      have hnil : Region.ready .any ops S = [] := by
        cases hr : Region.ready .any ops S with
        | nil => rfl
        | cons x xs =>
          rw [hr] at hi
          have hlt : t % (x :: xs).length < (x :: xs).length := Nat.mod_lt _ (by simp)
          rw [List.getElem?_eq_getElem hlt] at hi; cases hi
      have hall := hI.all hO hnil
      have hms := full S hall hnot
      obtain ⟨h1, h2⟩ := fin S stA a g w hI hM hs (fun i hi => hall i (by omega)) hnot
      refine ⟨g, a, w, ?_, rfl, h1, by rw [h2]; exact Stp.refl _ _ _, Fixed.refl _ _, fun _ _ h => h⟩
      rw [hms, Nat.sub_self, List.range'_zero]
      exact Steps.refl _ _
    | some i =>
      have hir := List.mem_of_getElem? hi
      obtain ⟨hSi, o, ho, _⟩ := mem_ready.1 hir
      have ho' : ops.toList[i]? = some o := by simpa using ho
      have hilt : i < ops.size := (Array.getElem?_eq_some_iff.1 ho).1
      by_cases him : i < m
      case neg =>
        -- the last one: all others are done
        have hme : i = m ∧ m + 1 = ops.size ∧ ∀ j, j < m → Nat.testBit (L.getD m 0) j = true := by
          rcases hm with q | ⟨q1, q2⟩
          · omega
          · exact ⟨by omega, q1, q2⟩
        obtain ⟨rfl, hsz, hbits⟩ := hme
        have hall : ∀ j, j < i → S.getD j false = true := fun j hj => hI.ahead hO hir (hbits j hj)
        obtain ⟨h1, h2⟩ := fin S stA a g w hI hM hs hall hnot
        dsimp only
        rw [linearise_go_acc, List.reverse_singleton, List.singleton_append, go_done (fun j hj => by
          by_cases e : i = j
          · subst e; simp [Array.getD_eq_getD_getElem?, hI.size, hj]
          · rw [getD_set_ne false e]; exact hall j (by omega)) (by simp [hI.size])]
        refine ⟨g, a, w, ?_, rfl, h1, by rw [h2]; exact Stp.refl _ _ _, Fixed.refl _ _, fun _ _ h => h⟩
        rw [show ops.size - i = 1 by omega, List.range'_one]
        exact Steps.refl _ _
      obtain ⟨d, sti, nxi, nxi1, hd, hk, hf, hsti, hmi, hfri, hnxi⟩ := hspec i o ho' him
      have hv : (ds.map (·.v))[i]? = some d.v := by rw [List.getElem?_map, hd]; rfl
      have hslots : ∀ t ∈ slots ops o, look stA.tm t = look sti.tm t := fun t ht => hI.slots hO ho' hir hl hsti ht
      have hid : i < ds.length := (List.getElem?_eq_some_iff.1 hd).1
      have hni : S.getD i false = false := by rw [getD_getD (by rw [hI.size]; exact hilt) false true]; exact hSi
      have hmemu : i ∈ u := hu i hilt hni
      have hu' : ∀ j, j < ops.size → (S.setIfInBounds i true).getD j false = false → j ∈ u.erase i := by
        intro j hj hq
        have hne : j ≠ i := by
          intro e
          subst e
          rw [show (S.setIfInBounds j true).getD j false = true by simp [Array.getD_eq_getD_getElem?, hI.size, hj]] at hq
          cases hq
        rw [getD_set_ne false (fun e => hne e.symm)] at hq
        exact (List.mem_erase_of_ne hne).2 (hu j hj hq)
      have hnot' : ∀ j, m ≤ j → (S.setIfInBounds i true).getD j false = false := by
        intro j hj
        rw [getD_set_ne false (by omega)]
        exact hnot j hj
      have hul' : (u.erase i).length = fuel := by rw [List.length_erase_of_mem hmemu, hul]; rfl
      have hset : ∀ j, (S.setIfInBounds i true).getD j false = true ↔ S.getD j false = true ∨ j = i := by
        intro j
        by_cases h : i = j
        · subst h
          simp [Array.getD_eq_getD_getElem?, hI.size, hilt]
        · rw [getD_set_ne false h]
          exact ⟨.inl, fun q => q.resolve_right fun e => h e.symm⟩
      -- who else writes what this one looks at
      have hwf : ∀ b ∈ d.w, b ∈ d.fp := (hk.facts hnxi).2.2.2
      have wfp : ∀ (j : Nat) (e : Did), ds[j]? = some e → ∀ b ∈ e.w, b ∈ e.fp := by
        intro j e he
        have hj := (List.getElem?_eq_some_iff.1 he).1
        have hoj : ops.toList[j]? = some ops.toList[j] := List.getElem?_eq_getElem (by omega)
        by_cases hjm : j < m
        case neg =>
          intro b hb
          rw [Did.w, hdum j e (by omega) he] at hb
          cases hb
        obtain ⟨e', stj, nxj, nxj1, q1, q2, _, _, _, _, q3⟩ := hspec j _ hoj hjm
        rw [he] at q1; cases q1
        exact (q2.facts q3).2.2.2
      have hti := memAt_of ds st0.mem i (by omega)
      rw [← hmi] at hti
      have wlt : ∀ (j : Nat) (e : Did), ds[j]? = some e → ∀ b ∈ e.w, b < st0.mem.length := by
        intro j e he b hb
        have hj := (List.getElem?_eq_some_iff.1 he).1
        have hoj : ops.toList[j]? = some ops.toList[j] := List.getElem?_eq_getElem (by omega)
        by_cases hjm : j < m
        case neg =>
          rw [Did.w, hdum j e (by omega) he] at hb
          cases hb
        obtain ⟨e', stj, nxj, nxj1, q1, q2, _, _, q4, _, q3⟩ := hspec j _ hoj hjm
        rw [he] at q1; cases q1
        have h1 := (q2.facts q3).2.2.1 b hb
        have h2 := (q2.facts q3).2.1
        have h3 := memAt_length (ds.take j) st0.mem
        rw [q4, h3] at h2
        omega
      have hag : ∀ b ∈ d.fp, stA.mem[b]? = sti.mem[b]? ∨ (d.us = [] ∧ ∃ x, stA.mem[b]? = some x ∧ d.ld b x = true) := by
        intro b hb
        by_cases hw : ∃ j e, S.getD j false = true ∧ i < j ∧ ds[j]? = some e ∧ b ∈ e.w
        · obtain ⟨j0, e0, q1, q2, q3, q4⟩ := hw
          obtain ⟨j, ⟨hj, e, he, hbe⟩, hl⟩ := last_of (p := fun j => S.getD j false = true ∧ ∃ d, ds[j]? = some d ∧ b ∈ d.w) (n := ds.length) (fun k ⟨_, d, hd, _⟩ => (List.getElem?_eq_some_iff.1 hd).1) _ j0 rfl ⟨q1, e0, q3, q4⟩
          have hij : i < j := by
            rcases Nat.lt_or_ge i j with q | q
            · exact q
            · exact absurd (show j < j0 by omega) (hl j0 ⟨q1, e0, q3, q4⟩)
          have hlast := hM.last j e b hj he hbe fun k x hk hjk hx hbx => hl k ⟨hk, x, hx, hbx⟩ hjk
          rcases hL.pair j i e d hij he hd with q | ⟨_, q | q⟩
          · have := hI.cl j i hj q; rw [hni] at this; cases this
          · exact absurd hb (q b hbe)
          · obtain ⟨x, hx, hld⟩ := q.2 b hbe hb
            rw [apply_last hx (wlt j e he b hbe)] at hlast
            exact .inr ⟨q.1, x, hlast, hld⟩
        · refine .inl (hM.agree hti fun j e he hbe => ?_)
          rcases Nat.lt_trichotomy j i with hlt | heq | hgt
          · rcases hL.pair i j d e hlt hd he with q | ⟨q, _⟩
            · exact ⟨fun _ => hlt, fun _ => hI.ahead hO hir q⟩
            · exact absurd hb (q b hbe)
          · subst heq
            exact ⟨fun q => (by rw [hni] at q; cases q), fun q => absurd q (Nat.lt_irrefl _)⟩
          · exact ⟨fun q => absurd ⟨j, e, q, hgt, he, hbe⟩ hw, fun q => by omega⟩
      have hlenA : stA.mem.length = sti.mem.length := hM.len.trans hti.len.symm
      have hM' : MemOf ds st0.mem (fun j => (S.setIfInBounds i true).getD j false = true) (apply stA.mem d.us) := by
        refine hM.step hd hset (by rw [hni]; exact fun q => by cases q) fun j e hS hij he b hb hbe => ?_
        rcases hL.pair j i e d hij he hd with q | ⟨q, _⟩
        · have := hI.cl j i hS q; rw [hni] at this; cases this
        · exact q b hb (wfp j e he b hbe)
      have hI' := hI.step hO ho' hv hir
      have hfA : fits stA o.dst = true := by
        have : fits stA o.dst = fits sti o.dst := by unfold fits; rw [show stA.nt = st0.nt from hI.nt, show sti.nt = st0.nt from hsti.2.1]
        rw [this]; exact hf
      have hfixA : stA.fix = st0.fix := hI.fix
      have hput : ∀ m : Mem, put { stA with mem := st0.mem } o.dst d.v = { put { stA with mem := m } o.dst d.v with mem := st0.mem } := by
        intro m; cases o.dst <;> rfl
      have hputm : ∀ m : Mem, (put { stA with mem := m } o.dst d.v).mem = m := by intro m; cases o.dst <;> rfl
      have hfixl : stA.fix ≤ (apply stA.mem d.us).length := by rw [apply_length]; exact hs.fix
      dsimp only
      rw [linearise_go_acc, List.reverse_singleton, List.singleton_append]
      have hwt := wants_congr hslots
      have hev := ev_congr (E := E) hslots
      obtain ⟨w1, w2, w3⟩ := wants_yes hs (ops := ops) (o := o)
      -- behind the operation
      have go : ∀ (g2 : Gh) (cv : Value) (w' : World), VA g2 w' d.v cv → Rel g2 (apply stA.mem d.us) w' → Ext g w g2 w' → Stp g stA.mem w g2 (apply stA.mem d.us) w' →
          Steps P (lone (b.atR a (.inRegion ops (i :: Region.linearise.go .any ops fuel (t / (Region.ready .any ops S).length) (S.setIfInBounds i true) []) :: k)) cs w)
            (lone (b.atR (a.put o.dst cv) (.inRegion ops (Region.linearise.go .any ops fuel (t / (Region.ready .any ops S).length) (S.setIfInBounds i true) []) :: k)) cs w') →
          ∃ g' a' w', Steps P (lone (b.atR a (.inRegion ops (i :: Region.linearise.go .any ops fuel (t / (Region.ready .any ops S).length) (S.setIfInBounds i true) []) :: k)) cs w) (lone (b.atR a' (.inRegion ops (List.range' m (ops.size - m)) :: k)) cs w') ∧ a'.defers = a.defers ∧ SRel E g' st' a' w' ∧
            Stp g stA.mem w g' st'.mem w' ∧ Fixed g g' st0.fix ∧ ∀ i c, g.blk i = some c → g'.blk i = some c := by
        intro g2 cv w' k2 k3 k4 k5 kst
        have hs' := hs.put hfA k2 k4 k3 hfixl
        obtain ⟨g3, a3, w3', r1, r2, r3, r4, r5, r6⟩ := ih (t / (Region.ready .any ops S).length) (S.setIfInBounds i true) _ _ _ _ (u.erase i) (by rw [← hput]; exact hI') (by rw [hputm]; exact hM') hs' hul' hu' hnot'
        rw [hputm] at r4
        refine ⟨g3, a3, w3', kst.trans r1, r2.trans put_defers, r3, k5.trans r4, (Fixed.ofExt k4 _).trans r5, fun j c q => r6 j c (k4.blk j c q).1⟩
      rcases hk with ⟨hw, hdo⟩ | ⟨hw, rfl, rfl⟩
      · have hwanted : Region.wanted o (yielded ops a.tmps) = true := by
          rcases hw with hw | ⟨s', b', want, hw, hb⟩
          · exact w1 (hwt.trans hw)
          · rw [(w3 s' b' want (hwt.trans hw)).1]; exact hb
        rcases hdo with ⟨gf, args, v, m1, ht, hdoes, h1, h2, h3, h4, h5⟩ | ⟨ht, hled, hop, hfp, hwlt, h3, h4, hld⟩
        · have hagree : ∀ b ∈ d.fp, stA.mem[b]? = sti.mem[b]? := fun b hb => (hag b hb).resolve_right fun ⟨_, x, _, q⟩ => by rw [h5] at q; cases q
          have htA : target (ev E stA.tm) o = some (gf, args) := (target_congr hev).trans ht
          have hfpe : d.fp = close sti.mem 0 args ++ List.range' nxi (m1.length - (close sti.mem 0 args).length) := by rw [h5]; rfl
          have hclose : close stA.mem 0 args = close sti.mem 0 args := close_congr hlenA.symm fun j hj => (get_getD (hagree j (by rw [hfpe]; exact List.mem_append_left _ hj))).symm
          have hpack : pack stA.mem (close sti.mem 0 args) = pack sti.mem (close sti.mem 0 args) := pack_congr fun j hj => (get_getD (hagree j (by rw [hfpe]; exact List.mem_append_left _ hj))).symm
          obtain ⟨hnd, _⟩ := close_spec sti.mem 0 args
          generalize close sti.mem 0 args = ord at *
          rw [← hpack] at hdoes
          have hR : ∀ j ∈ List.range' nxi (m1.length - ord.length), stA.mem[j]? = some .free := by
            intro j hj
            rw [hagree j (by rw [hfpe]; exact List.mem_append_right _ hj)]
            rw [List.mem_range'_1] at hj
            exact hfri j hj.1 (by omega)
          have hnd2 : (ord ++ List.range' nxi (m1.length - ord.length)).Nodup := List.nodup_append.2 ⟨hnd, List.nodup_range', fun x hx y hy e => by
            subst e
            rw [List.mem_range'_1] at hy
            have := h2 x hx; omega⟩
          have hlt2 : ∀ j ∈ ord ++ List.range' nxi (m1.length - ord.length), j < stA.mem.length := by
            intro j hj
            rcases List.mem_append.1 hj with q | q
            · have := h2 j q; omega
            · rw [List.mem_range'_1] at q; omega
          obtain ⟨⟨fn, hf1, hf2, hf3⟩, hdoes⟩ := hdoes
          unfold target at htA
          split at htA
          · rename_i call hopc
            split at htA
            · rename_i x hcal
              split at htA
              · rename_i f' first captured hx
                simp only [Option.some.injEq, Prod.mk.injEq] at htA
                obtain ⟨rfl, hargse⟩ := htA
                have hvx := ev_sound hs x
                rw [hx, VA.fns] at hvx
                obtain ⟨fa, ca, hvx, hfa, hca⟩ := hvx
                have hrunc := run_call (P := P) (w := w) hopc hcal hvx hf1 hf2 hf3
                have hargs : VAs g w args (fa ++ call.args.map a.eval ++ ca).toList := by
                  rw [← hargse]
                  simp only [Array.toList_append, Array.toList_map]
                  exact (hfa.append (maps_sound (ev_sound hs) _)).append hca
                obtain ⟨hp1, hp2⟩ := hs.rel.pack hnd
                have hren := Renames.pack g ord
                obtain ⟨w', g', cv, fr, q1, q2, q3, q4, q5, q6, q7, q8⟩ := hdoes (g.pack ord) w (fa ++ call.args.map a.eval ++ ca) (b.atR a (.inRegion ops (i :: Region.linearise.go .any ops fuel (t / (Region.ready .any ops S).length) (S.setIfInBounds i true) []) :: k) :: cs) hp1
                  (VAs.ren hren hargs) (hs.glob.mono fun _ _ p => ⟨p, rfl⟩)
                have hlen : (Am.pack stA.mem ord).length = ord.length := by simp [Am.pack]
                rw [hlen] at q7 q8
                obtain ⟨g2, r1, r2, r3, r4⟩ := hs.rel.backAt hnd2 hlt2 hR q5 q6 q7 (by simp; omega)
                have hus : d.us = (ord ++ List.range' nxi (m1.length - ord.length)).zip (m1.map (renB (backIdx (ord ++ List.range' nxi (m1.length - ord.length)) stA.mem.length))) := by rw [h5, hlenA]; rfl
                have hdv : d.v = ren (backIdx (ord ++ List.range' nxi (m1.length - ord.length)) stA.mem.length) v := by rw [h5, hlenA]; rfl
                rw [← hus] at r1 r3
                have hstep := step_enter (b := b) (k := k) (cs := cs) (rest := Region.linearise.go .any ops fuel (t / (Region.ready .any ops S).length) (S.setIfInBounds i true) []) ho hwanted hrunc
                have hleave := step_leave_returned (P := P) (c := b.atR a (.inRegion ops (i :: Region.linearise.go .any ops fuel (t / (Region.ready .any ops S).length) (S.setIfInBounds i true) []) :: k)) (cs := cs) q2
                rw [Frame.finish_atR, ho] at hleave
                exact go g2 cv w' (by rw [hdv]; exact q4.ren r4) r1 r2 r3 (.head hstep (q1.trans (.one hleave)))
              · cases htA
            · cases htA
          · cases htA
        · have both : (op1 P (fun j => stA.mem.getD j .dead) (wr o) nxi (ev E stA.tm) o = some (d.v, d.us, true)) ∧ (makes o = true → stA.mem[nxi]? = some .free) := by
            by_cases hsp : ∃ b x, d.us = [] ∧ stA.mem[b]? = some x ∧ d.ld b x = true
            · obtain ⟨b, x, hus, hx, hldx⟩ := hsp
              rw [hld] at hldx
              unfold ldOf at hldx
              split at hldx
              · rename_i t a hopl
                split at hldx
                · rename_i c off hadr
                  simp only [Bool.and_eq_true] at hldx
                  obtain ⟨hcb, hl2⟩ := hldx
                  have hcb := Nat.eq_of_beq_eq_true hcb
                  subst hcb
                  split at hl2
                  · rename_i v' ok hlo
                    simp only [Bool.and_eq_true] at hl2
                    obtain ⟨rfl, hv'⟩ := hl2
                    have hv' := eqAV_eq hv'
                    subst hv'
                    have hrd : (fun j => stA.mem.getD j Blk.dead) c = x := by
                      show stA.mem.getD c .dead = x
                      rw [List.getD_eq_getElem?_getD, hx]; rfl
                    have hload : loadOp P (fun j => stA.mem.getD j .dead) t (.mp c off) = loadOp P (fun _ => x) t (.mp c off) := by
                      simp only [loadOp, cellsAt_congr (rd := fun j => stA.mem.getD j Blk.dead) (rd' := fun _ => x) (a := .mp c off) (fun b hb => by
                        have : b = c := by simpa [refs] using hb
                        subst this; exact hrd)]
                    refine ⟨?_, fun hm => ?_⟩
                    · have e1 : ev E stA.tm a = .mp c off := by rw [hev a (by rw [hopl]; simp [Op.operands]), hadr]
                      simp only [op1, hopl, e1, hload, hlo, okUpd, Option.map_some, hus]
                    · simp [makes, hopl] at hm
                  · cases hl2
                · cases hldx
              · cases hldx
            · have hagree : ∀ b ∈ d.fp, stA.mem[b]? = sti.mem[b]? := fun b hb => (hag b hb).resolve_right fun ⟨q0, x, q1, q2⟩ => hsp ⟨b, x, q0, q1, q2⟩
              refine ⟨?_, fun hm => ?_⟩
              · rw [← hop]
                refine (op1_led hled (fun x hx => (hev x hx).symm) fun j hj => ?_).symm
                exact (get_getD (hagree j (by rw [hfp]; exact List.mem_append_right _ (List.mem_append_left _ hj)))).symm
              · rw [hagree nxi (by rw [hfp, hm]; exact List.mem_append_right _ (List.mem_append_right _ (by simp)))]
                rw [hm] at h3
                simp only [cond_true] at h3
                exact hfri nxi (Nat.le_refl _) (by omega)
          obtain ⟨hopA, hfree⟩ := both
          obtain ⟨cv, w', g', k1, k2, k3, k4, k5⟩ := op1_sound hs.rel (ev_sound hs) (fun _ => rfl) hfree hopA
          exact go g' cv w' k2 k3 k4 k5 (.one (step_op ho hwanted k1))
      · have hwanted : Region.wanted o (yielded ops a.tmps) = false := by
          rcases hw with hw | ⟨s', b', want, hw, hb⟩
          · exact w2 (hwt.trans hw)
          · rw [(w3 s' b' want (hwt.trans hw)).1]; exact hb
        refine go g undef w (VA.tups.2 trivial) hs.rel (Ext.refl g w) (Stp.refl _ _ _) (.one ?_)
        have hst := stepR_op_skip (P := P) (b := b) (a := a) (k := k) (cs := cs) (w := w) (ops := ops) (i := i) (rest := Region.linearise.go .any ops fuel (t / (Region.ready .any ops S).length) (S.setIfInBounds i true) []) (by simp [ho, hwanted])
        simpa only [ho, Option.bind_some] using hst

theorem allFree_get : ∀ {m : Mem}, allFree m = true → ∀ (i : Nat) (b : Blk), m[i]? = some b → b = .free
  | [], _, i, b, h => by simp at h
  | x :: r, h, i, b, hb => by
    cases x with
    | free =>
      cases i with
      | zero => simpa using hb.symm
      | succ i => exact allFree_get (m := r) h i b (by simpa using hb)
    | _ => cases h

theorem Rel.trim {g : Gh} {m : Mem} {w : World} (h : Rel g m w) {n : Nat} (hf : allFree (m.drop n) = true) : Rel g (m.take n) w ∧ Stp g m w g (m.take n) w := by
  have get : ∀ i b, (m.take n)[i]? = some b → m[i]? = some b := fun i b hb => by
    rw [List.getElem?_take] at hb
    split at hb
    · exact hb
    · cases hb
  refine ⟨⟨fun i hi => ?_, fun i hi => h.free i (get i _ hi), fun i b l hi hb => h.cells i b l (get i b hi) hb, fun i c hi hc => h.tok i c (get i _ hi) hc,
    fun i j b b' c hi hj ho ho' hc hc' => h.inj i j b b' c (get i b hi) (get j b' hj) ho ho' hc hc', h.there, fun i k l hi => h.obs i k l (get i _ hi)⟩, Stp.less fun c ⟨i, b, hi, ho, hc⟩ => ⟨i, b, get i b hi, ho, hc⟩⟩
  rcases Nat.lt_or_ge i m.length with q | q
  · rw [List.length_take] at hi
    have hb : (m.drop n)[i - n]? = some m[i] := by
      rw [List.getElem?_drop, show n + (i - n) = i by omega]
      exact List.getElem?_eq_getElem q
    have := allFree_get hf _ _ hb
    exact h.free i (by rw [List.getElem?_eq_getElem q, this])
  · exact h.far i q

theorem Rel.frees {g : Gh} {w : World} : ∀ (n : Nat) {m : Mem}, Rel g m w → Rel g (m ++ frees n) w ∧ Stp g m w g (m ++ frees n) w
  | 0, m, h => by
    simp only [Am.frees, List.replicate_zero, List.append_nil]
    exact ⟨h, Stp.refl _ _ _⟩
  | n + 1, m, h => by
    obtain ⟨h1, h2⟩ := h.reserve
    obtain ⟨h3, h4⟩ := Rel.frees n h1
    have e : m ++ Am.frees (n + 1) = (m ++ [.free]) ++ Am.frees n := by simp [Am.frees, List.replicate_succ]
    rw [e]
    exact ⟨h3, h2.trans h4⟩

/-- A region whose order is open. -/
theorem allBits_spec {x : Nat} : ∀ {n : Nat}, allBits x n = true → ∀ j, j < n → Nat.testBit x j = true
  | 0, _, j, h => absurd h (Nat.not_lt_zero _)
  | n + 1, h, j, hj => by
    simp only [allBits, Bool.and_eq_true] at h
    rcases Nat.lt_or_ge j n with q | q
    · exact allBits_spec h.2 j q
    · have : j = n := by omega
      subst this; exact h.1

theorem openOps_spec (ops : Array Oper) : openOps ops ≤ ops.size ∧ (openOps ops = ops.size ∨ (openOps ops + 1 = ops.size ∧ ∀ j, j < openOps ops → Nat.testBit ((masks [] ops.toList).getD (openOps ops) 0) j = true)) := by
  unfold openOps
  cases h : isLast ops with
  | false => exact ⟨Nat.le_refl _, .inl rfl⟩
  | true =>
    simp only [cond_true]
    refine ⟨by omega, ?_⟩
    unfold isLast at h
    simp only [Bool.and_eq_true] at h
    obtain ⟨h1, h2⟩ := h
    have hp : 0 < ops.size := by
      rcases Nat.eq_zero_or_pos ops.size with e | e
      · rw [show ops[ops.size - 1]? = none from Array.getElem?_eq_none (by omega)] at h1; cases h1
      · exact e
    exact .inr ⟨by omega, fun j hj => allBits_spec h2 j hj⟩

/-- The first operations, in the text's order: what is told of them in all. -/
theorem LRun.lspec {wr : Oper → Bool} {ops : Array Oper} {m : Nat} {st st' : St} {nx nx' : Nat} {ds : List Did} (h : LRun P E wr ops (ops.toList.take m) st nx ds st' nx') (hm : m ≤ ops.size) (hu : Uniq ops.toList) (hn : nx ≤ st.mem.length) (hfr : FreeFrom nx st.mem) :
    LSpec P E wr ops m st (ds ++ List.replicate (ops.size - m) ⟨.tup [], [], [], fun _ _ => false⟩) st' ∧ ds.length = m ∧ st'.mem = memAt st.mem ds ∧ st'.fix = st.fix := by
  have get : ∀ i, i < m → (ops.toList.take m)[i]? = ops.toList[i]? := fun i hi => by rw [List.getElem?_take, if_pos hi]
  have hu' : Uniq (ops.toList.take m) := by
    intro i j p q t hij hp hq
    rw [List.getElem?_take] at hp hq
    split at hp
    · split at hq
      · exact hu i j p q t hij hp hq
      · cases hq
    · cases hp
  have hlen : (ops.toList.take m).length = m := by simp; omega
  obtain ⟨h1, h2, h3, _, h4⟩ := h.spec hu' hn hfr
  rw [hlen] at h1 h2
  have slots : ∀ {i : Nat} {T : St}, i ≤ m → SlotsAt (ops.toList.take m) (ds.map (·.v)) st i T → SlotsAt ops.toList ((ds ++ List.replicate (ops.size - m) (⟨.tup [], [], [], fun _ _ => false⟩ : Did)).map (·.v)) st i T := by
    intro i T hi ⟨q1, q2, q3, q4, q5⟩
    refine ⟨q1, q2, q3, fun j p v t hj hp hv ht => q4 j p v t hj (by rw [get j (by omega)]; exact hp) ?_ ht, fun t ht => q5 t fun j p hj hp => ht j p hj ?_⟩
    · rw [List.map_append, List.getElem?_append_left (by simp; omega)] at hv; exact hv
    · rw [get j (by omega)] at hp; exact hp
  refine ⟨⟨by simp; omega, slots (Nat.le_refl _) h2, ?_, ?_, ?_⟩, h1, h3, h2.2.2.1⟩
  · rw [List.take_append_of_le_length (by omega), List.take_of_length_le (by omega)]; exact h3
  · intro i o ho hi
    obtain ⟨d, sti, nxi, nxi1, q1, q2, q3, q4, q5, q6, q7⟩ := h4 i o (by rw [get i hi]; exact ho)
    refine ⟨d, sti, nxi, nxi1, by rw [List.getElem?_append_left (by omega)]; exact q1, q2, q3, slots (by omega) q4, ?_, q6, q7⟩
    rw [List.take_append_of_le_length (by omega)]; exact q5
  · intro i e hi he
    rw [List.getElem?_append_right (by omega), List.getElem?_replicate] at he
    split at he
    · cases he; rfl
    · cases he

theorem LOk.pad {L : List Nat} {ds : List Did} {n : Nat} (h : ∀ (i j : Nat) (d e : Did), j < i → ds[i]? = some d → ds[j]? = some e → Nat.testBit (L.getD i 0) j = true ∨ ((∀ b ∈ e.w, b ∉ d.fp) ∧ ((∀ b ∈ d.w, b ∉ e.fp) ∨ LdOk d e))) :
    LOk L (ds ++ List.replicate n ⟨.tup [], [], [], fun _ _ => false⟩) := by
  refine ⟨fun i j d e hj hd he => ?_⟩
  rcases Nat.lt_or_ge i ds.length with q | q
  · exact h i j d e hj (by rw [List.getElem?_append_left q] at hd; exact hd) (by rw [List.getElem?_append_left (by omega)] at he; exact he)
  · rw [List.getElem?_append_right q, List.getElem?_replicate] at hd
    split at hd
    · cases hd
      exact .inr ⟨fun b _ => by simp, .inl fun b hb => by simp at hb⟩
    · cases hd

theorem led_ok {g : Gh} {w : World} {b : Frame} {a : Act} {k : List It} {ops : Array Oper} {f rid : Nat} {O : FuncId → List AV → Mem → Option (AV × Mem)} {st st' : St} (hO : ∀ g args m v m1, O g args m = some (v, m1) → Does P E g args m v m1)
    (hs : SRel E g st a w) (h : ledRun P E f rid O ops st = some (st', true)) :
    ∀ cs, ∃ g' a' w', Steps P (lone (b.atR a (.code (.region rid ops true) :: erl k)) cs w) (lone (b.atR a' (erl (behindOpen rid ops k))) cs w') ∧ a'.defers = a.defers ∧ SRel E g' st' a' w' ∧
      Stp g st.mem w g' st'.mem w' ∧ Fixed g g' st.fix ∧ st'.fix = st.fix ∧ ∀ i c, g.blk i = some c → g'.blk i = some c := by
  intro cs
  unfold ledRun at h
  split at h
  · rename_i st1 nx ds ok hq
    simp only [Option.some.injEq, Prod.mk.injEq, Bool.and_eq_true] at h
    obtain ⟨rfl, rfl, hord, hled, hfree, hnx, hmix⟩ := h
    have hnx := Nat.le_of_ble_eq_true hnx
    have hrun := ledGo_run hO hq
    obtain ⟨hQ, _⟩ := QOrd.of hord
    obtain ⟨hop1, hop2⟩ := openOps_spec ops
    have hL : LOk (masks [] ops.toList) (ds ++ List.replicate (ops.size - openOps ops) ⟨.tup [], [], [], fun _ _ => false⟩) := LOk.pad fun i j d e hj hd he => ledsOk_spec (bef := []) hled i j d e (Nat.zero_le _) hj hd he
    obtain ⟨hr1, hr2⟩ := hs.rel.frees (60 + ops.size)
    have hs1 : SRel E g { st with mem := st.mem ++ frees (60 + ops.size) } a w := ⟨hs.tm, hs.nt, hr1, by simp; have := hs.fix; omega, hs.glob⟩
    have hgd : ∀ j, (Array.replicate ops.size false).getD j false = false := by
      intro j
      rw [Array.getD_eq_getD_getElem?, Array.getElem?_replicate]
      split <;> rfl
    have hfr : FreeFrom st.mem.length (st.mem ++ frees (60 + ops.size)) := by
      intro i hi hl
      rw [List.getElem?_append_right hi]
      simp only [frees, List.length_append, List.length_replicate] at hl ⊢
      rw [List.getElem?_replicate, if_pos (by omega)]
    have hnl : st.mem.length ≤ (st.mem ++ frees (60 + ops.size)).length := by simp
    obtain ⟨hspec, hdl, hmem, hfix⟩ := hrun.lspec hop1 hQ.uniq hnl hfr
    generalize hds : ds ++ List.replicate (ops.size - openOps ops) (⟨.tup [], [], [], fun _ _ => false⟩ : Did) = ds2 at *
    have hI : QInv ops (masks [] ops.toList) (ds2.map (·.v)) { st with mem := st.mem ++ frees (60 + ops.size) } { st with mem := st.mem ++ frees (60 + ops.size) } (Array.replicate ops.size false) :=
      ⟨by simp, rfl, rfl, rfl, fun j _ _ _ hj => (by rw [hgd] at hj; cases hj), fun _ _ => rfl, fun i _ hi => (by rw [hgd] at hi; cases hi)⟩
    have hM : MemOf ds2 (st.mem ++ frees (60 + ops.size)) (fun j => (Array.replicate ops.size false).getD j false = true) (st.mem ++ frees (60 + ops.size)) := MemOf.nil fun j q => by rw [hgd] at q; cases q
    have hs2 := hs1.drew (w.drawn + 1)
    obtain ⟨g', a', w', r1, r2, r3, r4, r5, r6⟩ := led_any (P := P) (E := E) (b := b) (k := erl k) cs hQ hL hspec hop2 ops.size (w.tape w.drawn (.order b.fn rid)) (Array.replicate ops.size false) { st with mem := st.mem ++ frees (60 + ops.size) } a g _ (List.range ops.size) hI hM hs2 (by simp) (fun i hi _ => List.mem_range.2 hi) (fun i _ => hgd i)
    obtain ⟨t1, t2⟩ := r3.rel.trim hfree
    have hlen : st1.mem.length = st.mem.length + (60 + ops.size) := by rw [hmem, memAt_length]; simp [frees]
    have hfix : st1.fix = st.fix := hfix
    refine ⟨g', a', w', ?_, r2, ⟨r3.tm, r3.nt, t1, ?_, r3.glob⟩, ?_, r5, hfix, r6⟩
    · refine .head stepR_region_draw ?_
      have hsch : Region.schedule (P.follows .mixedOrders) ops (w.tape w.drawn (.order b.fn rid)) = Region.linearise.go .any ops ops.size (w.tape w.drawn (.order b.fn rid)) (Array.replicate ops.size false) [] := by
        simp only [Region.schedule, hmix, if_true, Region.linearise]
      rw [hsch]
      unfold behindOpen
      unfold openOps at r1
      cases hlast : isLast ops with
      | false =>
        rw [hlast] at r1
        simp only [cond_false, Nat.sub_self, List.range'_zero] at r1 ⊢
        exact r1.trans (.one stepR_region_end)
      | true =>
        rw [hlast] at r1
        simp only [cond_true] at r1 ⊢
        exact r1
    · have := hs.fix
      show st1.fix ≤ (st1.mem.take nx).length
      rw [List.length_take, hfix]
      omega
    · have hst : Stp g (st.mem ++ frees (60 + ops.size)) w g (st.mem ++ frees (60 + ops.size)) { w with drawn := w.drawn + 1 } := ⟨Nat.le_refl _, fun _ _ _ => rfl, fun _ _ h => ⟨h, rfl⟩, fun _ _ h => .inl h, fun _ h => .inl h, rfl, rfl, rfl⟩
      exact ((hr2.trans hst).trans r4).trans t2
  · cases h

/-! A region whose states are gone through all together, one operation more at a time. -/

def Same (s t : St) : Prop := s.nt = t.nt ∧ s.fix = t.fix ∧ s.mem = t.mem ∧ ∀ k, look s.tm k = look t.tm k

theorem Same.refl (s : St) : Same s s := ⟨rfl, rfl, rfl, fun _ => rfl⟩

theorem eqTm_look {a b : Tms} : ∀ {l : List Nat}, eqTm a b l = true → ∀ k ∈ l, look a k = look b k
  | [], _, k, h => by cases h
  | x :: r, h, k, hk => by
    simp only [eqTm, Bool.and_eq_true] at h
    rcases List.mem_cons.1 hk with rfl | hk
    · exact eqAV_eq h.1
    · exact eqTm_look h.2 k hk

theorem look_none : ∀ {a : Tms} {k : Nat}, k ∉ a.map (·.1) → look a k = .junk
  | [], _, _ => rfl
  | (j, v) :: r, k, h => by
    simp only [List.map_cons, List.mem_cons, not_or] at h
    simp only [look]
    cases hb : Nat.beq j k with
    | true => exact absurd (Nat.eq_of_beq_eq_true hb).symm h.1
    | false => exact look_none h.2

theorem eqSt_same {s t : St} (h : eqSt s t = true) : Same s t := by
  simp only [eqSt, Bool.and_eq_true] at h
  obtain ⟨h1, h2, h3, h4⟩ := h
  refine ⟨Nat.eq_of_beq_eq_true h1, Nat.eq_of_beq_eq_true h2, eqMem_eq h3, fun k => ?_⟩
  by_cases hk : k ∈ s.tm.map (·.1) ++ t.tm.map (·.1)
  · exact eqTm_look h4 k hk
  · rw [List.mem_append, not_or] at hk
    rw [look_none hk.1, look_none hk.2]

/-- Among the states there is one like this. -/
def Has (l : List Pt) (q : Pt) : Prop := ∃ p ∈ l, p.1 = q.1 ∧ Same q.2 p.2

theorem hasPt_has {q : Pt} : ∀ {l : List Pt}, hasPt q l = true → Has l q
  | [], h => by cases h
  | p :: r, h => by
    simp only [hasPt, Bool.or_eq_true] at h
    rcases h with h | h
    · simp only [eqPt, Bool.and_eq_true] at h
      exact ⟨p, .head _, (Array.toList_inj.1 (eqBools_eq h.1)).symm, eqSt_same h.2⟩
    · obtain ⟨x, h1, h2⟩ := hasPt_has h
      exact ⟨x, .tail _ h1, h2⟩

theorem addPt_has {q : Pt} {l : List Pt} : Has (addPt q l) q ∧ ∀ x ∈ l, x ∈ addPt q l := by
  unfold addPt
  cases h : hasPt q l with
  | true => exact ⟨hasPt_has h, fun _ hx => hx⟩
  | false => exact ⟨⟨q, .head _, rfl, Same.refl _⟩, fun _ hx => .tail _ hx⟩

theorem Has.mono {l l' : List Pt} {q : Pt} (h : Has l q) (hl : ∀ x ∈ l, x ∈ l') : Has l' q := by
  obtain ⟨p, h1, h2⟩ := h
  exact ⟨p, hl p h1, h2⟩

theorem nextPts_has {f : FuncId} {ops : Array Oper} {q : Pt} : ∀ {is : List Nat} {l l' : List Pt}, nextPts P E f ops q is l = some l' →
    (∀ x ∈ l, x ∈ l') ∧ ∀ i ∈ is, ∃ st, oneGo P E f ops i q.2 = some st ∧ Has l' (q.1.setIfInBounds i true, st)
  | [], l, l', h => by
    simp only [nextPts, Option.some.injEq] at h
    subst h
    exact ⟨fun _ hx => hx, fun i hi => by cases hi⟩
  | i :: r, l, l', h => by
    simp only [nextPts] at h
    split at h
    · rename_i st hst
      obtain ⟨h1, h2⟩ := nextPts_has h
      obtain ⟨k1, k2⟩ := addPt_has (q := (q.1.setIfInBounds i true, st)) (l := l)
      refine ⟨fun x hx => h1 x (k2 x hx), fun j hj => ?_⟩
      rcases List.mem_cons.1 hj with rfl | hj
      · exact ⟨st, hst, k1.mono h1⟩
      · exact h2 j hj
    · cases h

theorem level_has {f : FuncId} {ops : Array Oper} : ∀ {l acc l' : List Pt}, level P E f ops l acc = some l' →
    (∀ x ∈ acc, x ∈ l') ∧ ∀ q ∈ l, (Region.ready .any ops q.1 = [] → Has l' q) ∧ ∀ i ∈ Region.ready .any ops q.1, ∃ st, oneGo P E f ops i q.2 = some st ∧ Has l' (q.1.setIfInBounds i true, st)
  | [], acc, l', h => by
    simp only [level, Option.some.injEq] at h
    subst h
    exact ⟨fun _ hx => hx, fun q hq => by cases hq⟩
  | q :: r, acc, l', h => by
    simp only [level] at h
    split at h
    · rename_i hr
      obtain ⟨h1, h2⟩ := level_has h
      obtain ⟨k1, k2⟩ := addPt_has (q := q) (l := acc)
      refine ⟨fun x hx => h1 x (k2 x hx), fun p hp => ?_⟩
      rcases List.mem_cons.1 hp with rfl | hp
      · exact ⟨fun _ => k1.mono h1, fun i hi => by rw [hr] at hi; cases hi⟩
      · exact h2 p hp
    · rename_i hr
      split at h
      · rename_i l1 hn
        obtain ⟨h1, h2⟩ := level_has h
        obtain ⟨k1, k2⟩ := nextPts_has hn
        refine ⟨fun x hx => h1 x (k1 x hx), fun p hp => ?_⟩
        rcases List.mem_cons.1 hp with rfl | hp
        · refine ⟨fun e => absurd e hr, fun i hi => ?_⟩
          obtain ⟨st, q1, q2⟩ := k2 i hi
          exact ⟨st, q1, q2.mono h1⟩
        · exact h2 p hp
      · cases h

theorem Same.trans {a b c : St} (h : Same a b) (k : Same b c) : Same a c := ⟨h.1.trans k.1, h.2.1.trans k.2.1, h.2.2.1.trans k.2.2.1, fun x => (h.2.2.2 x).trans (k.2.2.2 x)⟩

theorem SRel.like {g : Gh} {w : World} {st st' : St} {a : Act} (h : SRel E g st a w) (q : Same st st') : SRel E g st' a w := h.same q.2.2.1 q.1 q.2.1 q.2.2.2

theorem levels_stuck {f : FuncId} {ops : Array Oper} : ∀ (n : Nat) {l l' : List Pt}, levels P E f ops n l = some l' → ∀ q ∈ l, Region.ready .any ops q.1 = [] → Has l' q
  | 0, l, l', h, q, hq, _ => by
    simp only [levels, Option.some.injEq] at h
    subst h
    exact ⟨q, hq, rfl, Same.refl _⟩
  | n + 1, l, l', h, q, hq, hr => by
    simp only [levels] at h
    split at h
    · rename_i l1 hl
      obtain ⟨p, h1, h2, h3⟩ := (((level_has hl).2 q hq).1 hr)
      obtain ⟨x, k1, k2, k3⟩ := levels_stuck n h p h1 (by rw [h2]; exact hr)
      exact ⟨x, k1, k2.trans h2, h3.trans k3⟩
    · cases h

theorem lat_ok {b : Frame} {k : List Item} {f : FuncId} {ops : Array Oper} : ∀ (n : Nat) (l l' : List Pt), levels P E f ops n l = some l' → ∀ (q : Pt), q ∈ l → ∀ (t : Nat) (a : Act) (g : Gh) (w : World), SRel E g q.2 a w →
    ∃ st' ∈ l'.map (·.2), ∃ g' a' w', (∀ cs, Steps P (lone (b.atR a (.inRegion ops (Region.linearise.go .any ops n t q.1 []) :: k)) cs w) (lone (b.atR a' (.inRegion ops [] :: k)) cs w')) ∧ a'.defers = a.defers ∧ SRel E g' st' a' w' ∧
      Stp g q.2.mem w g' st'.mem w' ∧ Fixed g g' q.2.fix ∧ st'.fix = q.2.fix ∧ ∀ i c, g.blk i = some c → g'.blk i = some c
  | 0, l, l', h, q, hq, t, a, g, w, hs => by
    simp only [levels, Option.some.injEq] at h
    subst h
    exact ⟨q.2, List.mem_map.2 ⟨q, hq, rfl⟩, g, a, w, fun cs => Steps.refl _ _, rfl, hs, Stp.refl _ _ _, Fixed.refl _ _, rfl, fun _ _ q => q⟩
  | n + 1, l, l', h, q, hq, t, a, g, w, hs => by
    have h0 := h
    simp only [levels] at h
    split at h
    · rename_i l1 hl
      simp only [Region.linearise.go]
      show ∃ st' ∈ l'.map (·.2), ∃ g' a' w', (∀ cs, Steps P (lone (b.atR a (.inRegion ops (match (Region.ready .any ops q.1)[t % (Region.ready .any ops q.1).length]? with
        | some i => Region.linearise.go .any ops n (t / (Region.ready .any ops q.1).length) (q.1.setIfInBounds i true) [i]
        | none => [].reverse) :: k)) cs w) (lone (b.atR a' (.inRegion ops [] :: k)) cs w')) ∧ _
      obtain ⟨_, k2⟩ := (level_has hl).2 q hq
      cases hr : (Region.ready .any ops q.1)[t % (Region.ready .any ops q.1).length]? with
      | none =>
        have hnil : Region.ready .any ops q.1 = [] := by
          cases hz : Region.ready .any ops q.1 with
          | nil => rfl
          | cons x xs =>
            rw [hz] at hr
            have hlt : t % (x :: xs).length < (x :: xs).length := Nat.mod_lt _ (by simp)
            rw [List.getElem?_eq_getElem hlt] at hr; cases hr
        obtain ⟨p, p1, p2, p3⟩ := levels_stuck (n + 1) h0 q hq hnil
        exact ⟨p.2, List.mem_map.2 ⟨p, p1, rfl⟩, g, a, w, fun cs => Steps.refl _ _, rfl, hs.like p3, by rw [← p3.2.2.1]; exact Stp.refl _ _ _, Fixed.refl _ _, p3.2.1.symm, fun _ _ q => q⟩
      | some i =>
        dsimp only
        rw [linearise_go_acc, List.reverse_singleton, List.singleton_append]
        obtain ⟨st, he, p, p1, p2, p3⟩ := k2 i (List.mem_of_getElem? hr)
        have p2 : p.1 = q.1.setIfInBounds i true := p2
        have p3 : Same st p.2 := p3
        unfold oneGo at he
        split at he
        · cases he
        · rename_i o ho
          split at he
          · rename_i hw
            dsimp only at he
            split at he
            · rename_i v us ok hop
              cases hok : (ok && fits q.2 o.dst) with
              | false => rw [hok] at he; cases he
              | true =>
                rw [hok] at he
                simp only [cond_true, Option.some.injEq] at he
                subst he
                simp only [Bool.and_eq_true] at hok
                obtain ⟨rfl, hf⟩ := hok
                have hwanted := (wants_yes hs (ops := ops) (o := o)).1 hw
                have hres : Rel g (reserve o q.2.mem) w ∧ Stp g q.2.mem w g (reserve o q.2.mem) w := by
                  unfold reserve
                  cases makes o with
                  | true => exact hs.rel.reserve
                  | false => exact ⟨hs.rel, Stp.refl _ _ _⟩
                have hfree : makes o = true → (reserve o q.2.mem)[q.2.mem.length]? = some .free := by
                  intro hm
                  simp [reserve, hm]
                obtain ⟨cv, w1, g1, k1, k2, k3, k4, k5⟩ := op1_sound hres.1 (ev_sound hs) (fun _ => rfl) hfree hop
                have hlen2 : q.2.fix ≤ (apply (reserve o q.2.mem) us).length := by
                  rw [apply_length]
                  have := hs.fix
                  unfold reserve
                  cases makes o <;> simp <;> omega
                have hs1 := (hs.put hf k2 k4 k3 hlen2).like p3
                have hm : p.2.mem = apply (reserve o q.2.mem) us := by rw [← p3.2.2.1, put_withmem]
                have hx : p.2.fix = q.2.fix := by rw [← p3.2.1]; cases o.dst <;> rfl
                obtain ⟨st2, r0, g2, a2, w2, r1, r2, r3, r4, r5, r6, r7⟩ := lat_ok (b := b) (k := k) n l1 l' h p p1 (t / (Region.ready .any ops q.1).length) _ _ _ hs1
                rw [hm] at r4
                rw [hx] at r5 r6
                rw [p2] at r1
                exact ⟨st2, r0, g2, a2, w2, fun cs => .head (step_op ho hwanted k1) (r1 cs), r2.trans put_defers, r3, (hres.2.trans k5).trans r4, (Fixed.ofExt k4 _).trans r5, r6, fun i c q => r7 i c (k4.blk i c q).1⟩
            · cases he
          · cases he
    · cases h

/-- Such a region: one of the states. -/
theorem fork_ok {g : Gh} {w : World} {b : Frame} {a : Act} {k : List Item} {ops : Array Oper} {f rid : Nat} {st : St} {sts : List St} (hs : SRel E g st a w) (h : forkRun P E f ops st = some sts) :
    ∃ st' ∈ sts, ∃ g' a' w', (∀ cs, Steps P (lone (b.atR a (.code (.region rid ops true) :: k)) cs w) (lone (b.atR a' k) cs w')) ∧ a'.defers = a.defers ∧ SRel E g' st' a' w' ∧
      Stp g st.mem w g' st'.mem w' ∧ Fixed g g' st.fix ∧ st'.fix = st.fix ∧ ∀ i c, g.blk i = some c → g'.blk i = some c := by
  unfold forkRun at h
  cases hc : ((isFlip ops || isFill P ops) && (P.follows .mixedOrders || !Region.departs ops)) with
  | false => rw [hc] at h; cases h
  | true =>
    rw [hc] at h
    simp only [cond_true, Option.map_eq_some_iff] at h
    simp only [Bool.and_eq_true] at hc
    obtain ⟨l', h1, rfl⟩ := h
    obtain ⟨st', h2, g', a', w', r1, r2, r3, r4, r5, r6, r7⟩ := lat_ok (b := b) (k := k) _ _ _ h1 (Array.replicate ops.size false, st) (.head _) (w.tape w.drawn (.order b.fn rid)) a g _ (hs.drew (w.drawn + 1))
    refine ⟨st', h2, g', a', w', fun cs => ?_, r2, r3, ?_, r5, r6, r7⟩
    · refine .head stepR_region_draw ?_
      have hsch : Region.schedule (P.follows .mixedOrders) ops (w.tape w.drawn (.order b.fn rid)) = Region.linearise.go .any ops ops.size (w.tape w.drawn (.order b.fn rid)) (Array.replicate ops.size false) [] := by
        simp only [Region.schedule, hc.2, if_true, Region.linearise]
      rw [hsch]
      exact (r1 cs).trans (.one stepR_region_end)
    · have hst : Stp g st.mem w g st.mem { w with drawn := w.drawn + 1 } := ⟨Nat.le_refl _, fun _ _ _ => rfl, fun _ _ h => ⟨h, rfl⟩, fun _ _ h => .inl h, fun _ h => .inl h, rfl, rfl, rfl⟩
      exact hst.trans r4

end
end Go.Am
