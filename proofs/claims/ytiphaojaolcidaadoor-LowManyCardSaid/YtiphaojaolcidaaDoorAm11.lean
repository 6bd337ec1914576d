/-
  Appends, copies, conversions of texts.
-/
import Derived.Test.YtiphaojaolcidaaDoorAm10
import Derived.Lib.Builder
namespace Go.Am
open Go.RowKit

section ops
variable {P : Program} {g : Gh} {m : Mem} {w : World}

theorem VP.mk {len sz cap b o : Nat} {cells : List PV} {us : List Value} (h : VPs g w cells us) (hl : us.length = len * sz) (hc : len ≤ cap) (hz : 1 ≤ sz)
    (hu : ∀ k v, us[k]? = some v → w.cell? ⟨b, o + k, none⟩ = some v ∧ g.pure b (o + k) ∧ v.oneCell' = true) : VP g w (.ps len sz cells) (.slice (some ⟨b, o, none⟩) len cap) := by
  have hcl := h.len
  refine .ps len sz cells b o cap (fun k => us.getD k undef) (by omega) hc hz (fun k hk => ?_) fun k hk => ?_
  · have : us[k]? = some us[k] := List.getElem?_eq_getElem (by omega)
    obtain ⟨h1, h2, h3⟩ := hu k _ this
    exact ⟨h2, by rw [h1, List.getD_eq_getElem?_getD, this]; rfl, by rw [List.getD_eq_getElem?_getD, this]; exact h3⟩
  · have : us[k]? = some us[k] := List.getElem?_eq_getElem (by omega)
    rw [List.getD_eq_getElem?_getD, this]
    exact h.get k hk (by omega)

theorem ps_cells {len sz cap : Nat} {cs : List PV} {ad : Option Addr} (h : VP g w (.ps len sz cs) (.slice ad len cap)) : ∀ b o, (ad = some ⟨b, o, none⟩ ∨ len = 0) →
    ∃ us, VPs g w cs us ∧ us.length = len * sz ∧ ∀ k v, us[k]? = some v → w.cell? ⟨b, o + k, none⟩ = some v ∧ g.pure b (o + k) ∧ v.oneCell' = true := by
  intro b o ha
  cases h with
  | ps _ _ _ b' o' cap f hl hc hz hp hv =>
    rcases ha with ha | rfl
    · cases ha
      refine ⟨(List.range cs.length).map f, All2.of_get (by simp) fun i hi _ => by simpa using hv i hi, by simp [hl], fun k v hk => ?_⟩
      simp only [List.getElem?_map, Option.map_eq_some_iff] at hk
      obtain ⟨j, hj, rfl⟩ := hk
      obtain ⟨hlt, hj⟩ := List.getElem?_eq_some_iff.1 hj
      simp at hlt hj; subst hj
      exact ⟨(hp k hlt).2.1, (hp k hlt).1, (hp k hlt).2.2⟩
    · simp at hl; subst hl
      exact ⟨[], trivial, by simp, fun k v hk => by simp at hk⟩
  | psE => exact ⟨[], trivial, by simp, fun k v hk => by simp at hk⟩

theorem takeTok_apply {nid : Nat} {tok : Option Nat} {us : Upd} (hn : m[nid]? = some .free) (h : takeTok (fun i => m.getD i .dead) nid tok = some us) (hr : Rel g m w) :
    ∃ m1 : Mem, apply m us = m1.set nid .tok ∧ m1[nid]? = some .free ∧ Rel g m1 w ∧ Stp g m w g m1 w ∧ ∀ t, tok = some t → m[t]? = some .tok ∧ m1 = m.set t .dead := by
  unfold takeTok at h
  split at h
  · simp only [Option.some.injEq] at h; subst h
    exact ⟨m, rfl, hn, hr, Stp.refl g m w, fun t e => by cases e⟩
  · rename_i t
    split at h
    · rename_i ht
      simp only [Option.some.injEq] at h; subst h
      have ht := getD_some ht (by simp)
      have hne : t ≠ nid := fun e => by subst e; rw [ht] at hn; cases hn
      obtain ⟨k1, k2⟩ := hr.kill t
      refine ⟨m.set t .dead, rfl, by rw [List.getElem?_set_ne hne]; exact hn, k1, k2, fun t' e => by cases e; exact ⟨ht, rfl⟩⟩
    · cases h

theorem Stands.drew {sz n : Nat} {x : AV} {cx : Value} {pvs : List PV} (h : Rel g m w) (hx : VA g w x cx) (he : contents (fun i => m.getD i .dead) sz x = some (n, pvs, true)) : Stands P g w.drew sz n pvs cx := by
  obtain ⟨h1, h2, _⟩ := h.sameHeap (w' := w.drew) rfl rfl rfl rfl
  exact contents_sound h1 he (hx.mono h2)

theorem cut_appendCap (need old : Nat) (elem : TypeId) (t : Nat) : need ≤ (Question.appendCap need old elem).cut t := by simp [Question.cut]

theorem appendOp_sound (h : Rel g m w) {nid : Nat} (hn : m[nid]? = some .free) {argTypes : Array TypeId} {ty : TypeId} {s x a : AV} {cs cx : Value} {us : Upd}
    (hs : VA g w s cs) (hx : VA g w x cx) (he : appendOp P (fun i => m.getD i .dead) nid argTypes s x = some (a, us, true)) :
    OpOk g m w (((do pure (.value (← Builtin.append_ argTypes ty #[cs, cx])) : Sem Next)).run P w) a (apply m us) := by
  unfold appendOp at he
  split at he
  · rename_i sType xType hs0 hx0
    split at he
    · cases he
    · rename_i elem d hd hu hux
      split at he
      · rename_i info z hi hz
        split at he
        · rename_i n pvs ok tok len sz cells hcon
          simp only [Option.map_eq_some_iff, Prod.mk.injEq, Bool.and_eq_true] at he
          obtain ⟨us', htk, rfl, rfl, ⟨⟨⟨⟨rfl, h1⟩, h2⟩, h3⟩, h4⟩, h5⟩ := he
          have h2 := Nat.le_of_ble_eq_true h2
          have h3 := Nat.eq_of_beq_eq_true h3
          have h4 := Nat.le_of_ble_eq_true h4
          have h5 := Nat.le_of_ble_eq_true h5
          unfold lim at h4 h5
          obtain ⟨zv, z1, z2⟩ := zeroCells_sound (g := g) (w := w) hz
          have hzl := z2.1.len
          simp only [Array.length_toList] at hzl
          have hzs : zv.cells.size = info.size := by omega
          have hsz : szOf P elem = some info.size := by simp [szOf, hi]
          obtain ⟨m1, e1, e2, e3, e4, e5⟩ := takeTok_apply hn htk h
          cases hs with
          | os _ _ _ _ ad cap hps htok =>
          have hps' : VP g w (.ps len info.size cells) (.slice ad len cap) := ps_size hps (by
            rw [Bool.or_eq_true] at h1 ⊢
            refine h1.imp id fun k => ?_
            simp only [Bool.and_eq_true] at k ⊢
            exact ⟨k.1, Nat.ble_eq_true_of_le h2⟩)
          obtain ⟨_, _, _, q, hcap⟩ := ps_len hps'
          cases q
          rw [e1]
          by_cases hneed : len + n ≤ cap
          · -- there is room
            obtain ⟨vx, x1, x2, hone, x3, x4⟩ := contents_sound (P := P) h hcon hx
            have x5 := x4 n (Nat.le_refl _)
            rw [List.take_of_length_le (by omega)] at x5
            rcases htok with hfull | ⟨t, b, o, rfl, rfl, t1, t2, t3, t4⟩
            · have hn0 : n = 0 := by omega
              subst hn0
              have hvx : vx = [] := List.length_eq_zero_iff.1 (by simpa using x2)
              subst hvx
              have hpv : pvs = [] := by cases pvs with
                | nil => rfl
                | cons _ _ => exact x1.elim
              subst hpv
              obtain ⟨r1, r2⟩ := e3.tokNone e2
              refine ⟨.slice ad (len + 0) cap, w, g, .inl ?_, ?_, r1, Ext.refl g w, e4.trans r2⟩
              · simp only [Builtin.append_, hs0, hx0, List.getElem?_toArray, List.getElem?_cons_zero, List.getElem?_cons_succ, Sem.run_bind, run_underlying hu, Result.andThen_ok, run_sizeOf' hsz, run_underlying hux, Sem.run_pure, Bool.false_eq_true, if_false, x3, hneed, if_true, Bool.not_false, x5]
                cases ad <;> simp [storeCells]
              · rw [List.append_nil]
                exact .os _ _ _ _ _ _ (by simpa using hps') (.inl (by simpa using hfull))
            · -- in place
              obtain ⟨m1t, m1e⟩ := e5 t rfl
              have hsize : sz = info.size := by simpa using h1
              subst hsize
              obtain ⟨carr, e, q, k1, k2, k3, k4⟩ := h.tok t b m1t t1
              have hmul : (len + n) * info.size = len * info.size + n * info.size := Nat.add_mul _ _ _
              have hmle : (len + n) * info.size ≤ cap * info.size := Nat.mul_le_mul_right _ hneed
              obtain ⟨w', carr', p1, p2, p3, p4, p5, p6, p7, p8⟩ := run_stores (P := P) b (o + len * info.size) vx 0 w carr e q k1 (fun j hj => k3.imp id fun k3 => by omega) (by omega) hone
              simp only [Nat.add_zero] at p3
              have hcsz : carr'.size = carr.size := by
                have := congrArg List.length p3
                rw [setL_length] at this; simpa using this
              have hsp := h.spare (k := n * info.size) m1t t1 hn k1 (by omega) p4 p5 p6 p7 p8 p2 hcsz (fun c hc => by
                have : carr'.toList[c]? = carr.toList[c]? := by rw [p3]; exact setL_get _ _ _ _ (by omega)
                simpa using this)
              obtain ⟨r1, r2, r3⟩ := hsp
              rw [m1e]
              refine ⟨.slice (some ⟨b, o, none⟩) (len + n) cap, w', _, .inl ?_, ?_, r1, r2, r3⟩
              · have hadd : (⟨b, o, none⟩ : Addr).add (len * info.size) = ⟨b, o + len * info.size, none⟩ := addr_add _ _ _
                simp only [Builtin.append_, hs0, hx0, List.getElem?_toArray, List.getElem?_cons_zero, List.getElem?_cons_succ, Sem.run_bind, run_underlying hu, Result.andThen_ok, run_sizeOf' hsz, run_underlying hux, Sem.run_pure, Bool.false_eq_true, if_false, x3, hneed, if_true, Bool.not_false, x5, hadd, p1]
              · obtain ⟨us, u1, u2, u3⟩ := ps_cells hps' b o (.inl rfl)
                refine .os _ _ _ _ _ _ (VP.mk (us := us ++ vx) ((All2.mono (fun _ _ => VP.mono r2.pure) u1).append (All2.mono (fun _ _ => VP.mono r2.pure) x1)) (by simp; omega) hneed h2 fun k v hk => ?_) (.inr ⟨nid, b, o, rfl, rfl, by simp [Gh.put, Gh.more], by simp [Gh.put, Gh.more]; omega, by simp [Gh.put, Gh.more, t3], hneed⟩)
                rw [List.getElem?_append] at hk
                by_cases hlt : k < us.length
                · rw [if_pos hlt] at hk
                  obtain ⟨v1, v2, v3⟩ := u3 k v hk
                  exact ⟨(r2.pure _ _ v2).2.trans v1, (r2.pure _ _ v2).1, v3⟩
                · rw [if_neg hlt] at hk
                  have hk' := lt_of_get hk
                  have hnew := setL_new vx carr.toList (o + len * info.size) (k - us.length) hk' (by simp; omega)
                  rw [← p3, hk] at hnew
                  refine ⟨?_, .inr ⟨rfl, by omega, by omega⟩, hone v (List.mem_of_getElem? hk)⟩
                  rw [cell?_cells p2]
                  rw [show o + len * info.size + (k - us.length) = o + k by omega] at hnew
                  simpa using hnew
          · -- it grows
            obtain ⟨d1, d2, d3⟩ := h.sameHeap (w' := w.drew) rfl rfl rfl rfl
            obtain ⟨_, _, _, _, l3, _⟩ := contents_sound (P := P) h hcon hx
            obtain ⟨vx, x1, x2, hone, x3, x4⟩ := Stands.drew (P := P) h hx hcon
            have x5 := x4 n (Nat.le_refl _)
            rw [List.take_of_length_le (by omega)] at x5
            obtain ⟨vs, s1, s2, sone, s3, s4⟩ := stands_ps (P := P) (hps'.mono d2.pure)
            have s5 := s4 len (Nat.le_refl _)
            rw [List.take_of_length_le (by omega)] at s5
            have hcap' := cut_appendCap (len + n) cap elem (w.tape w.drawn (.appendCap (len + n) cap elem))
            generalize hnc : (Question.appendCap (len + n) cap elem).cut (w.tape w.drawn (.appendCap (len + n) cap elem)) = newCap at hcap'
            have hrest : (Builtin.zeroCells zv.cells (newCap - (len + n))).size = (newCap - (len + n)) * info.size := by simp [Builtin.zeroCells, hzs]
            have hall : (vs.toArray ++ vx.toArray ++ Builtin.zeroCells zv.cells (newCap - (len + n))).size = newCap * info.size := by
              simp only [Array.size_append, List.size_toArray, hrest, s2, x2]
              rw [Nat.sub_mul, Nat.add_mul]
              have := Nat.mul_le_mul_right info.size hcap'
              rw [Nat.add_mul] at this
              omega
            generalize hobj : vs.toArray ++ vx.toArray ++ Builtin.zeroCells zv.cells (newCap - (len + n)) = all at hall
            have hgrew : Grew w (w.drew.alloc (.cells all elem)) (.cells all elem) := ⟨rfl, rfl, rfl, rfl⟩
            have hmul : (len + n) * info.size = len * info.size + n * info.size := Nat.add_mul _ _ _
            have hle : (len + n) * info.size ≤ all.size := by rw [hall]; exact Nat.mul_le_mul_right _ hcap'
            obtain ⟨r1, r2, r3⟩ := e3.fresh (k := (len + n) * info.size) e2 hgrew hle (.inl (Nat.le_refl _))
            refine ⟨.slice (some ⟨w.heap.size, 0, none⟩) (len + n) newCap, _, _, .inl ?_, ?_, r1, r2, e4.trans r3⟩
            · have hmax : ¬ (((len + n : Nat) : Int) > IntKind.i64.max) := by
                rw [show IntKind.i64.max = 9223372036854775807 from by decide]; omega
              have hgrow : ¬ (Builtin.nextslicecap (len + n) cap * info.bytes > 2 ^ 48) := by
                have := growslice_fits (need := len + n) (old := cap) (bytes := info.bytes) (by omega) (by omega)
                omega
              simp only [Builtin.append_, hs0, hx0, List.getElem?_toArray, List.getElem?_cons_zero, List.getElem?_cons_succ, Sem.run_bind, run_underlying hu, Result.andThen_ok, run_sizeOf' hsz, run_underlying hux, Sem.run_pure, Bool.false_eq_true, if_false, l3, hneed, Bool.not_false, hmax, false_and, run_typeInfo' hi, hgrow, run_choose, Question.forced, hnc, World.drew_eq, run_askRoom, s5, x5, z1, hobj, if_true, newRow, run_newObj, World.alloc_eq, World.size_drew]
            · have hnew : (w.drew.alloc (.cells all elem)).heap[w.heap.size]? = some (.cells all elem) := hgrew.new
              have hlist : all.toList = vs ++ vx ++ (Builtin.zeroCells zv.cells (newCap - (len + n))).toList := by rw [← hobj]; simp
              refine .os _ _ _ _ _ _ (VP.mk (us := vs ++ vx) ?_ (by simp; omega) hcap' h2 fun k v hk => ?_) (.inr ⟨nid, w.heap.size, 0, rfl, rfl, by simp [Gh.put, Gh.more], by simp [Gh.put, Gh.more], by simp [Gh.put, Gh.more, hall], hcap'⟩)
              · exact (All2.mono (fun _ _ => VP.mono (g := g) (w := w.drew) (fun c o p => ⟨(r2.pure c o p).1, (r2.pure c o p).2⟩)) s1).append (All2.mono (fun _ _ => VP.mono (g := g) (w := w.drew) (fun c o p => ⟨(r2.pure c o p).1, (r2.pure c o p).2⟩)) x1)
              · have hk' := lt_of_get hk
                simp only [List.length_append] at hk'
                refine ⟨?_, .inr ⟨rfl, by omega, by omega⟩, ?_⟩
                · rw [cell?_cells hnew, ← Array.getElem?_toList, hlist, Nat.zero_add, List.getElem?_append_left (by simpa using hk')]
                  exact hk
                · rcases List.mem_append.1 (List.mem_of_getElem? hk) with q | q
                  · exact sone v q
                  · exact hone v q
        · cases he
      · cases he
    · cases he
  · cases he

theorem copyOp_sound (h : Rel g m w) {argTypes : Array TypeId} {ty : TypeId} {d s a : AV} {cd cx : Value} {us : Upd}
    (hd : VA g w d cd) (hx : VA g w s cx) (he : copyOp P (fun i => m.getD i .dead) argTypes d s = some (a, us, true)) :
    OpOk g m w (((do pure (.value (← Builtin.copy_ argTypes ty #[cd, cx])) : Sem Next)).run P w) a (apply m us) := by
  unfold copyOp at he
  split at he
  · rename_i t ht
    split at he
    · rename_i elem hu
      split at he
      · rename_i size hsz
        split at he
        · rename_i n pvs ok b off len sz cap hcon
          split at he
          · rename_i l hl
            simp only [Option.some.injEq, Prod.mk.injEq, Bool.and_eq_true] at he
            obtain ⟨rfl, rfl, ⟨rfl, h1⟩, h2⟩ := he
            have h1 := Nat.eq_of_beq_eq_true h1
            have h2 := Nat.le_of_ble_eq_true h2
            subst h1
            have hm := getD_some hl (by simp)
            obtain ⟨vx, x1, x2, hone, x3, x4⟩ := contents_sound (P := P) h hcon hx
            have x5 := x4 (Nat.min n len) (Nat.min_le_left _ _)
            cases hd with
            | ms _ _ _ _ cap c hc hcap =>
            obtain ⟨c', carr, e, q, k1, k2, k3, k4, k5⟩ := h.cells b _ _ hm rfl
            rw [hc] at k1; cases k1
            have hlen := k4.1.len
            simp only [List.length_map, Array.length_toList] at hlen
            have hmin : Nat.min n len * sz ≤ n * sz := Nat.mul_le_mul_right _ (Nat.min_le_left _ _)
            have hmin2 : Nat.min n len * sz ≤ len * sz := Nat.mul_le_mul_right _ (Nat.min_le_right _ _)
            have htl : (vx.take (Nat.min n len * sz)).length = Nat.min n len * sz := by rw [List.length_take, x2]; exact Nat.min_eq_left hmin
            obtain ⟨w', carr', p1, p2, p3, p4, p5, p6, p7, p8⟩ := run_stores (P := P) c off (vx.take (Nat.min n len * sz)) 0 w carr e q k2 (fun _ _ => .inl k3) (by omega) (fun v hv => hone v (List.mem_of_mem_take hv))
            simp only [Nat.add_zero] at p3
            have hsplice : ∀ (new : List Value) (l : List Value) (o : Nat), o + new.length ≤ l.length → setL l o new = l.take o ++ new ++ l.drop (o + new.length) := by
              intro new
              induction new with
              | nil => intro l o _; simp [setL]
              | cons x new ih =>
                intro l o ho
                simp only [List.length_cons] at ho
                rw [setL, ih _ _ (by simp; omega)]
                have hlt : o < l.length := by omega
                rw [List.drop_set_of_lt (by omega), List.take_add_one, List.take_set_of_le (Nat.le_refl _)]
                simp only [List.getElem?_set_self hlt, Option.toList_some, List.length_cons, List.append_assoc, List.singleton_append]
                rw [show o + (new.length + 1) = o + 1 + new.length by omega]
            have hxp : VPs g w (pvs.take (Nat.min n len * sz)) (vx.take (Nat.min n len * sz)) := x1.take _
            have hmap : ∀ {l : List PV} {vs : List Value}, VPs g w l vs → VAs g w (l.map .p) vs := fun hh => All2.mapL _ (fun _ _ k => .p _ _ k) hh
            have hcells : CAs g w ((l.take off ++ pvs.take (Nat.min n len * sz) ++ l.drop (off + Nat.min n len * sz)).map .p) carr'.toList := by
              refine ⟨?_, by rw [p3]; exact setL_mem _ _ _ k4.2 (fun v hv => hone v (List.mem_of_mem_take hv))⟩
              rw [p3, hsplice _ _ _ (by simp [htl]; omega), htl]
              simp only [List.map_append, List.map_take, List.map_drop]
              refine ((k4.1.take off).append ?_).append (k4.1.drop _)
              rw [← List.map_take]; exact hmap hxp
            obtain ⟨r1, r2, r3⟩ := h.write (b' := .pc (l.take off ++ pvs.take (Nat.min n len * sz) ++ l.drop (off + Nat.min n len * sz))) hm rfl hc rfl p4 p5 p6 p7 p8 p2 k3 hcells
            refine ⟨goInt (Nat.min n len), w', g, .inl ?_, .p _ _ (.sc _), r1, r2, r3⟩
            simp only [Builtin.copy_, ht, List.getElem?_toArray, List.getElem?_cons_zero, List.getElem?_cons_succ, Sem.run_bind, run_underlying hu, Result.andThen_ok, x3, run_sizeOf' hsz, x5, p1, Sem.run_pure]
          · cases he
        · cases he
      · cases he
    · cases he
  · cases he

theorem bytes_of {pvs : List PV} {vs : List Value} (h : VPs g w pvs vs) (hb : pvs.all isByte = true) : ∃ ns : List Int, vs = ns.map (Value.int .u8) ∧ pvs.map byteOf = ns.map fun n => UInt8.ofNat n.toNat := by
  induction pvs generalizing vs with
  | nil => cases vs with
    | nil => exact ⟨[], rfl, rfl⟩
    | cons _ _ => exact h.elim
  | cons p pvs ih =>
    cases vs with
    | nil => exact h.elim
    | cons v vs =>
      simp only [List.all_cons, Bool.and_eq_true] at hb
      obtain ⟨ns, e1, e2⟩ := ih h.2 hb.2
      have h1 := h.1
      cases h1 with
      | sc =>
        cases v <;> simp only [isByte, Bool.false_eq_true, false_and] at hb
        rename_i k n
        cases k <;> simp only [Bool.false_eq_true, false_and] at hb
        exact ⟨n :: ns, by rw [e1]; rfl, by rw [List.map_cons, e2]; rfl⟩
      | _ => simp [isByte] at hb

theorem freeze_new (w : World) (all : Array Value) (e : TypeId) :
    (w.alloc (.cells all e)).freeze { block := w.heap.size, off := all.size } 1 = { w with heap := w.heap.push (.cells all e (all.size, all.size + 1)) } := by
  simp only [World.freeze, World.alloc]
  rw [if_neg (by decide)]
  congr 1
  apply Array.ext_getElem?
  intro j
  rw [Array.getElem?_modify, Array.getElem?_push, Array.getElem?_push]
  by_cases hj : j = w.heap.size
  · subst hj; simp
  · rw [if_neg (fun h => hj h.symm), if_neg hj, if_neg hj]

theorem shape_new (w : World) (all : Array Value) (e : TypeId) : (w.alloc (.cells all e)).shape? w.heap.size = some (e, all.size) := by
  simp only [World.shape?, (grew_alloc w (.cells all e)).new]

theorem foldl_push : ∀ (ns : List Int) (s : ByteArray), ns.foldl (fun r n => r.push (UInt8.ofNat n.toNat)) s = ⟨(s.data.toList ++ ns.map fun n => UInt8.ofNat n.toNat).toArray⟩
  | [], s => by cases s; simp
  | n :: ns, s => by
    rw [List.foldl_cons, foldl_push ns]
    cases s
    simp [ByteArray.push]

/-- A block that is given up: its cells are pure from now on. -/
theorem Rel.freeze1 {m : Mem} (h : Rel g m w) {b c : Nat} {l : List PV} (hb : m[b]? = some (.pc l)) (hc : g.blk b = some c) :
    Rel (g.more c 0 l.length) (m.set b .dead) w ∧ Ext g w (g.more c 0 l.length) w ∧ Stp g m w (g.more c 0 l.length) (m.set b .dead) w := by
  obtain ⟨c', cs, e, n, k1, k2, k3, k4, k5⟩ := h.cells b _ _ hb rfl
  rw [hc] at k1; cases k1
  have hlen := k4.1.len
  simp only [List.length_map, Array.length_toList] at hlen
  have ext : Ext g w (g.more c 0 l.length) w := ⟨fun _ _ h => ⟨h, rfl, rfl⟩, fun _ _ p => ⟨.inl p, rfl⟩⟩
  have ne : ∀ j x c', j ≠ b → m[j]? = some x → x.owns = true → g.blk j = some c' → c' ≠ c := fun j x c' hjb hj ho hc' e => hjb (h.inj j b x _ c hj hb ho rfl (e ▸ hc') hc)
  refine ⟨⟨fun j hj => h.far j (by simpa using hj), fun j hj => ?_, fun j x k hj hk => ?_, fun j c' hj hc' => ?_, fun j k x x' c' hj hk ho ho' hc1 hc2 => ?_, fun c' o p => ?_, fun j kk ll hj => ?_⟩, ext, ⟨Nat.le_refl _, fun _ _ _ => rfl, fun _ _ p => ⟨.inl p, rfl⟩, fun c' o p => ?_, fun c' ho => ?_, rfl, rfl, rfl⟩⟩
  · rcases get_set hj with ⟨_, e⟩ | ⟨_, e⟩
    · cases e
    · exact h.free j e
  · rcases get_set hj with ⟨_, e⟩ | ⟨hjb, e⟩
    · subst e; cases hk
    · obtain ⟨c1, cs1, e1, n1, q1, q2, q3, q4, q5⟩ := h.cells j x k e hk
      refine ⟨c1, cs1, e1, n1, q1, q2, q3, q4.mono ext, fun o p => ?_⟩
      rcases p with p | ⟨rfl, _⟩
      · exact q5 o p
      · exact ne j x _ hjb e (owns_of_cells hk) q1 rfl
  · rcases get_set hj with ⟨_, e⟩ | ⟨hjb, e⟩
    · cases e
    · obtain ⟨cs1, e1, n1, q2, q3, q4, q5⟩ := h.tok j c' e hc'
      refine ⟨cs1, e1, n1, q2, q3, q4, fun o a b p => ?_⟩
      rcases p with p | ⟨rfl, _⟩
      · exact q5 o a b p
      · exact ne j _ _ hjb e rfl hc' rfl
  · rcases get_set hj with ⟨_, e⟩ | ⟨_, e⟩
    · subst e; simp [Blk.owns] at ho
    · rcases get_set hk with ⟨_, e'⟩ | ⟨_, e'⟩
      · subst e'; simp [Blk.owns] at ho'
      · exact h.inj j k x x' c' e e' ho ho' hc1 hc2
  · rcases p with p | ⟨rfl, _, p⟩
    · exact h.there c' o p
    · exact ⟨cs[o], by rw [cell?_cells k2, Array.getElem?_eq_getElem (by omega)]⟩
  · rcases get_set hj with ⟨_, e⟩ | ⟨hjb, e⟩
    · cases e
    · obtain ⟨c1, o1, vs1, q1, q2, q3, q4, q5, q6⟩ := h.obs j kk ll e
      exact ⟨c1, o1, vs1, q1, q2, q3.mono ext, q4, fun o p => p.elim (q5 o) fun q => ne j _ c1 hjb e rfl q1 q.1, q6⟩
  · rcases p with p | ⟨rfl, _⟩
    · exact .inl p
    · exact .inr (.inl ⟨b, _, hb, rfl, hc⟩)
  · rcases owned_set ho with ⟨q, _⟩ | ⟨j, x, _, q1, q2, q3⟩
    · simp [Blk.owns] at q
    · exact .inl ⟨j, x, q1, q2, q3⟩

/-- A block that nobody owns, with another mark. -/
theorem Rel.remark {m : Mem} {w' : World} {c : Nat} {cs : Array Value} {e : TypeId} {n n' : Nat × Nat} (h : Rel g m w) (hno : ¬ Owned g m c) (h1 : w.heap[c]? = some (.cells cs e n)) (h2 : w'.heap[c]? = some (.cells cs e n'))
    (h3 : ∀ k, k ≠ c → w'.heap[k]? = w.heap[k]?) : Rel g m w' ∧ Ext g w g w' := by
  have hcell : ∀ b o, w'.cell? ⟨b, o, none⟩ = w.cell? ⟨b, o, none⟩ := by
    intro b o
    by_cases e : b = c
    · subst e; rw [cell?_cells h1, cell?_cells h2]
    · exact cell?_of_heap (h3 b e)
  have ext : Ext g w g w' := ⟨fun _ _ q => ⟨q, rfl, rfl⟩, fun b o p => ⟨p, hcell b o⟩⟩
  have ne : ∀ j x c', m[j]? = some x → x.owns = true → g.blk j = some c' → c' ≠ c := fun j x c' hj ho hc' e => hno ⟨j, x, hj, ho, e ▸ hc'⟩
  refine ⟨⟨h.far, h.free, fun j x k hj hk => ?_, fun j c' hj hc' => ?_, h.inj, fun b o p => ?_, fun j kk ll hj => ?_⟩, ext⟩
  · obtain ⟨c1, cs1, e1, n1, q1, q2, q3, q4, q5⟩ := h.cells j x k hj hk
    exact ⟨c1, cs1, e1, n1, q1, (h3 c1 (ne j x c1 hj (owns_of_cells hk) q1)).trans q2, q3, q4.mono ext, q5⟩
  · obtain ⟨cs1, e1, n1, q2, q3, q4, q5⟩ := h.tok j c' hj hc'
    exact ⟨cs1, e1, n1, (h3 c' (ne j _ c' hj rfl hc')).trans q2, q3, q4, q5⟩
  · obtain ⟨v, hv⟩ := h.there b o p
    exact ⟨v, (hcell b o).trans hv⟩
  · obtain ⟨c1, o1, vs1, q1, q2, q3, q4⟩ := h.obs j kk ll hj
    exact ⟨c1, o1, vs1, q1, (h3 c1 (ne j _ c1 hj rfl q1)).trans q2, q3.mono ext, q4⟩

theorem freeze_world (w : World) {c off : Nat} {cs : Array Value} {e : TypeId} {n : Nat × Nat} (h : w.heap[c]? = some (.cells cs e n)) :
    (∃ n', (w.freeze ⟨c, off, none⟩ 1).heap[c]? = some (.cells cs e n')) ∧ (∀ k, k ≠ c → (w.freeze ⟨c, off, none⟩ 1).heap[k]? = w.heap[k]?) ∧ (w.freeze ⟨c, off, none⟩ 1).heap.size = w.heap.size ∧
      (w.freeze ⟨c, off, none⟩ 1).os = w.os ∧ (w.freeze ⟨c, off, none⟩ 1).tape = w.tape ∧ (w.freeze ⟨c, off, none⟩ 1).output = w.output := by
  unfold World.freeze
  rw [if_neg (by decide)]
  refine ⟨?_, fun k hk => ?_, by simp, rfl, rfl, rfl⟩
  · obtain ⟨lo, hi⟩ := n
    refine ⟨if lo == hi then (off, off + 1) else (min lo off, max hi (off + 1)), ?_⟩
    show (w.heap.modify c _)[c]? = _
    rw [Array.getElem?_modify, if_pos rfl, h]
    rfl
  · show (w.heap.modify c _)[k]? = _
    rw [Array.getElem?_modify, if_neg (fun e => hk e.symm)]

theorem lies_self {e count n : Nat} (hc : 1 ≤ P.cellsOf e) (hn : n ≤ count) : liesAt P P.depth e count 0 e n = true := by
  have hd : P.depth = (2 * (P.types.size + Made.depth) + 1) + 1 := rfl
  rw [hd]
  simp only [liesAt, Bool.or_eq_true]
  left
  rw [hd]
  have h0 : ¬ P.cellsOf e = 0 := by omega
  simp [rowAt, hn, sameLayout, h0]

theorem convertOp_sound (h : Rel g m w) {nid : Nat} (hn : m[nid]? = some .free) {ρ : Operand → AV} {ρc : Operand → Value} {o : Oper} (hr : ∀ x, VA g w (ρ x) (ρc x)) {src dst : TypeId} {x : Operand}
    (ho : o.op = .convert src dst x) {a : AV} {us : Upd} (he : convertOp P (fun i => m.getD i .dead) nid ρ o src dst (ρ x) = some (a, us, true)) :
    OpOk g m w ((execOp ρc o).run P w) a (apply m us) := by
  have hx := hr x
  have hexec : (execOp ρc o).run P w = ((convert src dst (ρc x)).run P w).andThen fun v w' => .ok (.value v) w' := by simp only [execOp, ho, Sem.run_bind, Sem.run_pure]
  unfold convertOp at he
  split at he
  · rename_i k k' n hud hxe
    split at he
    · rename_i d hus
      simp only [Option.some.injEq, Prod.mk.injEq, and_true] at he
      obtain ⟨rfl, rfl⟩ := he
      rw [hxe, VA.pv] at hx
      generalize hz : ρc x = z at hx hexec
      cases hx
      refine OpOk.quiet h (v := .int k (k.wrap n)) ?_ (.p _ _ (.sc _))
      rw [hexec]
      simp [convert, run_underlying hus, run_underlying hud, Conv.intToInt]
    · cases he
  · rename_i s hud hxe
    split at he
    · rename_i hus
      simp only [Option.some.injEq, Prod.mk.injEq, and_true] at he
      obtain ⟨rfl, rfl⟩ := he
      rw [hxe, VA.pv] at hx
      generalize hz : ρc x = z at hx hexec
      cases hx
      refine OpOk.quiet h (v := .string s) ?_ (.p _ _ (.sc _))
      rw [hexec]
      simp [convert, run_underlying hus, run_underlying hud]
    · cases he
  · rename_i e s hud hxe
    split at he
    · rename_i hus hue
      simp only [Option.some.injEq, Prod.mk.injEq, and_true] at he
      obtain ⟨rfl, rfl⟩ := he
      rw [hxe, VA.pv] at hx
      generalize hz : ρc x = z at hx hexec
      cases hx
      have hcap' := cut_appendCap s.size 0 e (w.tape w.drawn (.appendCap s.size 0 e))
      generalize hnc : (Question.appendCap s.size 0 e).cut (w.tape w.drawn (.appendCap s.size 0 e)) = newCap at hcap'
      generalize hobj : (s.data.map fun b => (Value.int .u8 b.toNat)) ++ Array.replicate (newCap - s.size) (Value.int .u8 0) = all
      have hss : s.data.toList.length = s.size := Array.length_toList
      have hall : all.size = newCap := by
        rw [← hobj]; simp only [Array.size_append, Array.size_map, Array.size_replicate]
        have : s.data.size = s.size := rfl
        omega
      have hgrew : Grew w ({ w.drew with heap := w.heap.push (.cells all e (all.size, all.size + 1)) } : World) (.cells all e (all.size, all.size + 1)) := ⟨rfl, rfl, rfl, rfl⟩
      obtain ⟨r1, r2, r3⟩ := h.fresh (k := s.size) hn hgrew (by omega) (.inr (Nat.le_refl _))
      refine ⟨.slice (some ⟨w.heap.size, 0, none⟩) s.size newCap, _, _, .inl ?_, ?_, r1, r2, r3⟩
      · rw [hexec]
        have hsh := shape_new w.drew all e
        have hfz := freeze_new w.drew all e
        rw [World.size_drew] at hsh hfz
        simp only [convert, Sem.run_bind, run_underlying hus, run_underlying hud, run_underlying hue, Result.andThen_ok, Conv.stringToBytes, run_choose, Question.forced, Bool.false_eq_true, if_false, hnc, World.drew_eq, hobj, newRow, run_newObj, World.alloc_eq, Sem.run_pure, markStringish, run_shape, World.size_drew, hsh, run_freeze, hfz]
        rfl
      · rw [hss]
        have hlist : all.toList = (s.data.toList.map fun b => (Value.int .u8 b.toNat)) ++ List.replicate (newCap - s.size) (Value.int .u8 0) := by rw [← hobj]; simp
        refine .os _ _ _ _ _ _ (VP.mk (us := s.data.toList.map fun b => (Value.int .u8 b.toNat)) (All2.of_get (by simp) fun i a b => by simp only [List.getElem_map]; exact .sc _) (by simp [hss]) hcap' (Nat.le_refl _) fun k v hk => ?_) (.inr ⟨nid, w.heap.size, 0, rfl, rfl, by simp [Gh.put, Gh.more], by simp [Gh.put, Gh.more], by simp [Gh.put, Gh.more, hall], hcap'⟩)
        have hk' := lt_of_get hk
        rw [List.length_map, hss] at hk'
        refine ⟨?_, .inr ⟨rfl, by omega, by omega⟩, ?_⟩
        · rw [cell?_cells hgrew.new, ← Array.getElem?_toList, hlist, Nat.zero_add, List.getElem?_append_left (by rw [List.length_map, hss]; exact hk')]
          exact hk
        · obtain ⟨b, _, rfl⟩ := List.mem_map.1 (List.mem_of_getElem? hk); rfl
    · cases he
  · rename_i e b off len sz cap hud hxe
    split at he
    · rename_i e' l hus hue hb
      simp only [Option.some.injEq, Prod.mk.injEq, Bool.and_eq_true] at he
      obtain ⟨rfl, rfl, h1, h2, h3⟩ := he
      have h1 := Nat.eq_of_beq_eq_true h1
      have h2 := Nat.eq_of_beq_eq_true h2
      have h3 := Nat.le_of_ble_eq_true h3
      subst h1; subst h2
      obtain rfl : e' = e := by have := hus.symm.trans hud; cases this; rfl
      rw [hxe] at hx
      generalize hz : ρc x = z at hx hexec
      cases hx with
      | ms _ _ _ _ cap c hc hcap =>
      have hbl := getD_some hb (by simp)
      obtain ⟨c', cs, et, n, k1, k2, k3, k4, k5⟩ := h.cells b _ _ hbl rfl
      rw [hc] at k1; cases k1
      have hlen := k4.1.len
      simp only [List.length_map, Array.length_toList] at hlen
      obtain ⟨r1, r2, r3⟩ := h.freeze1 hbl hc
      obtain ⟨⟨n', f1⟩, f2, f3, f4, f5, f6⟩ := freeze_world w (off := cs.size) k2
      have hno : ¬ Owned (g.more c 0 l.length) (m.set b .dead) c := by
        rintro ⟨j, x, hj, ho, hcj⟩
        rcases get_set hj with ⟨_, e⟩ | ⟨hjb, e⟩
        · subst e; simp [Blk.owns] at ho
        · exact hjb (h.inj j b x _ c e hbl ho rfl hcj hc)
      obtain ⟨s1, s2⟩ := r1.remark hno k2 f1 f2
      have hVP : VPs g w l cs.toList := All2.of_get (by simpa using k4.1.len) fun i a b => by
        have := k4.1.get i (by simpa using a) b
        rw [List.getElem_map, VA.pv] at this
        exact this
      have hpure : ∀ o, o < l.length → (g.more c 0 l.length).pure c o := fun o ho => .inr ⟨rfl, Nat.zero_le _, ho⟩
      refine ⟨.slice (some ⟨c, off, none⟩) len cap, _, _, .inl ?_, .p _ _ (VP.mk (us := (cs.toList.drop off).take len) (All2.mono (fun _ _ q => VP.mono (r2.trans s2).pure q) ((hVP.drop off).take len)) (by simp; omega) hcap (Nat.le_refl _) fun k v hk => ?_), s1, r2.trans s2, ⟨by rw [f3]; exact Nat.le_refl _, fun k _ hn => f2 k fun e => hn (e ▸ ⟨b, _, hbl, rfl, hc⟩), fun b o p => (r2.trans s2).pure b o p, r3.fresh, r3.owned, f4, f5, f6⟩⟩
      · rw [hexec]
        have hsh : w.shape? c = some (et, cs.size) := by simp only [World.shape?, k2]
        simp only [convert, Sem.run_bind, run_underlying hus, run_underlying hue, Result.andThen_ok, beq_self_eq_true, markStringish, run_shape, hsh, run_freeze, Sem.run_pure]
      · rw [List.getElem?_take] at hk
        split at hk
        · rename_i hlt
          rw [List.getElem?_drop] at hk
          have hk' := lt_of_get hk
          refine ⟨by rw [cell?_cells f1]; simpa using hk, hpure (off + k) (by omega), k4.2 v (List.mem_of_getElem? hk)⟩
        · cases hk
    · cases he
  · rename_i b off hud hxe
    split at he
    · rename_i t ty l hus hb
      split at he
      · rename_i j hj
        simp only [Option.some.injEq, Prod.mk.injEq, Bool.and_eq_true] at he
        obtain ⟨rfl, rfl, h1, h2⟩ := he
        have h1 := Nat.le_of_ble_eq_true h1
        have h2 := Nat.le_of_ble_eq_true h2
        rw [hxe] at hx
        generalize hz : ρc x = z at hx hexec
        cases hx with
        | mp _ _ c hc =>
        obtain ⟨c', ob, vs, k1, k2, k3, k4, _, _⟩ := h.obs b _ _ (getD_some hb (by simp))
        rw [hc] at k1; cases k1
        obtain ⟨cs, e, n, rfl, _, _, q1, q2, _⟩ := k4
        have hl := k3.len
        have hsh : w.shape? c = some (e, cs.size) := by simp only [World.shape?, k2]
        refine OpOk.quiet h (v := .pointer (some ⟨c, off, none⟩)) ?_ (.mp b off c hc)
        rw [hexec, Lib.run_to_unsafe w ⟨c, off, none⟩ hus hud hj (by omega) hsh (by show off < cs.size; omega)]
        rfl
      · cases he
    · cases he
  · rename_i u b hud hxe
    split at he
    · rename_i ty l hus hb
      split at he
      · rename_i j hj
        simp only [Option.some.injEq, Prod.mk.injEq, Bool.and_eq_true] at he
        obtain ⟨rfl, rfl, h1, h2, h3⟩ := he
        have h1 := Nat.eq_of_beq_eq_true h1
        have h2 := Nat.le_of_ble_eq_true h2
        have h3 := Nat.le_of_ble_eq_true h3
        subst h1
        rw [hxe] at hx
        generalize hz : ρc x = z at hx hexec
        cases hx with
        | mp _ _ c hc =>
        obtain ⟨c', ob, vs, k1, k2, k3, k4, _, _⟩ := h.obs b _ _ (getD_some hb (by simp))
        rw [hc] at k1; cases k1
        obtain ⟨cs, e, n, rfl, rfl, _, q1, q2, _⟩ := k4
        have hl := k3.len
        have hsh : w.shape? c = some (e, cs.size) := by simp only [World.shape?, k2]
        refine OpOk.quiet h (v := .pointer (some ⟨c, 0, none⟩)) ?_ (.mp b 0 c hc)
        rw [hexec, Lib.run_from_unsafe w ⟨c, 0, none⟩ hus hud hj hsh (lies_self (by omega) ((Nat.le_div_iff_mul_le (by omega)).2 (by omega)))]
        rfl
      · cases he
    · cases he
  · rename_i hud hnot
    split at he
    · rename_i e hus
      split at he
      · rename_i hue
        split at he
        · rename_i n pvs ok hcon
          simp only [Option.some.injEq, Prod.mk.injEq, Bool.and_eq_true] at he
          obtain ⟨rfl, rfl, rfl, h1⟩ := he
          obtain ⟨vs, s1, s2, _, s4, s5⟩ := contents_sound (P := P) h hcon hx
          obtain ⟨ns, n1, n2⟩ := bytes_of s1 h1
          have s6 := s5 n (Nat.le_refl _)
          rw [List.take_of_length_le (by omega), n1] at s6
          have hnl : ns.length = n := by rw [n1] at s2; simpa using s2
          generalize hz : ρc x = z at hx hexec s4 s6
          refine OpOk.quiet h (v := .string ⟨(ns.map fun n => UInt8.ofNat n.toNat).toArray⟩) ?_ (by rw [n2]; exact .p _ _ (.sc _))
          rw [hexec]
          cases z with
          | slice ad len cap =>
            have hlen : len = n := by simpa [Builtin.lenOf] using s4
            subst hlen
            cases ad with
            | none =>
              have : ns = [] := by
                have : (#[] : Array Value) = (ns.map (Value.int .u8)).toArray := by simpa [Builtin.firstCells] using s6
                have := congrArg Array.size this
                simp at this
                exact List.length_eq_zero_iff.1 (by omega)
              subst this
              simp [convert, run_underlying hus, run_underlying hud, run_underlying hue, Conv.bytesToString, ByteArray.empty, ByteArray.emptyWithCapacity]
              rfl
            | some ad =>
              have hload : (loadCells ad len).run P w = .ok (ns.map (Value.int .u8)).toArray w := by simpa [Builtin.firstCells] using s6
              have := run_bytesToString (P := P) w ad len cap ns hload
              simp only [convert, Sem.run_bind, run_underlying hus, run_underlying hud, run_underlying hue, Result.andThen_ok, this, foldl_push]
              simp [ByteArray.empty, ByteArray.emptyWithCapacity]
              rfl
          | string s =>
            exfalso
            generalize hxx : ρ x = xx at hx hnot hcon
            cases hx with
            | p pv _ hp => cases hp; exact hnot s rfl
            | junk => simp [contents] at hcon
          | _ => simp [Builtin.lenOf] at s4
        · cases he
      · cases he
    · cases he
  · simp only [Option.map_eq_some_iff, Prod.mk.injEq, and_true] at he
    obtain ⟨v, h1, rfl, rfl⟩ := he
    obtain ⟨cv, k1, k2⟩ := scalar_sound hr (fun _ _ => by rw [ho]; exact fun e => by cases e) h1
    exact OpOk.quiet h k1 k2

end ops
end Go.Am
