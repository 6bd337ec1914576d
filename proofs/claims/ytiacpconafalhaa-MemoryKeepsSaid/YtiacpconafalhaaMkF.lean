/-
  MemoryKeeps: the law.
-/
import Derived.Test.YtiacpconafalhaaMkE
set_option linter.unusedVariables false
set_option linter.unusedSimpArgs false
namespace Go.Proofs.Ytiacpconafalhaa.N
open Go Go.Am

theorem put_one {s : Pg} {b : List Int} {e v : Nat} {n : Nat} (hn : n ≤ 4) (hs : okP s) (hb : isB b) (hl : 12 ≤ b.length) (he : e + b.length ≤ 65536) :
    (readP (putP (putP s e b) (e + 4) (bytesOf v n)) e b.length).take 4 = b.take 4 ∧ (readP (putP (putP s e b) (e + 4) (bytesOf v n)) e b.length).drop (4 + n) = b.drop (4 + n) ∧ leV (readP (putP (putP s e b) (e + 4) (bytesOf v n)) (e + 4) n) = ((v % 256 ^ n : Nat) : Int) := by
  obtain ⟨h1, h2⟩ := kept (v := v) hs hb hn hl he
  have ht : (b.take 4).length = 4 := by rw [List.length_take]; omega
  refine ⟨?_, ?_, ?_⟩
  · rw [h1, List.take_left' ht]
  · rw [h1, ← List.append_assoc, List.drop_left' (by rw [List.length_append, ht, bytesOf_len])]
  · rw [h2, leV_bytes]

theorem must_ok {x : Int} {v : Nat} {m : Int} {n k : Nat} (hx : x = IntKind.u32.wrap (((BitVec.ofInt 32 (v : Int) &&& BitVec.ofInt 32 m).toNat : Nat) : Int)) (h4 : 4 ≤ k) (hn : n ≤ k) :
    (eqAV (AV.p (PV.sc (Value.bool (x != IntKind.u32.wrap (((BitVec.ofInt 32 (v : Int) &&& BitVec.ofInt 32 m).toNat : Nat) : Int))))) (AV.p (PV.sc (Value.bool false))) && (Nat.ble 4 k && true && true && (Nat.ble 4 k && true && true && (Nat.ble n k && k.ble k && true && true && (Nat.ble n k && k.ble k && true && true && true)))) && true) = true := by
  have e : (x != IntKind.u32.wrap (((BitVec.ofInt 32 (v : Int) &&& BitVec.ofInt 32 m).toNat : Nat) : Int)) = false := by rw [hx]; simp
  rw [e, Nat.ble_eq_true_of_le h4, Nat.ble_eq_true_of_le hn, Nat.ble_eq_true_of_le (Nat.le_refl k)]
  rfl

/-- A round of the law: bytes are laid, a word in them, both are got. -/
theorem stage {s : Pg} {a o v e : Nat} {b : List Int} (hs : okP s) (hb : isB b) (hl : 12 ≤ b.length) (he : e + b.length ≤ 65536) (hk : a + o = e + 4) :
    Does Try.prog env 6 [.mp 0 0, sI .u32 e, aB b] (stM 1 s) (sI .i64 0) (stM 1 (putP s e b)) ∧ okP (putP s e b) ∧
    (∀ n : Nat, n ≤ 4 → okP (putP (putP s e b) (e + 4) (bytesOf v n)) ∧
      Does Try.prog env 10 [.mp 0 0, sI .u32 e, sI .u32 b.length] (stM 1 (putP (putP s e b) (e + 4) (bytesOf v n))) (.tup [.p (.ps b.length 1 (encB (readP (putP (putP s e b) (e + 4) (bytesOf v n)) e b.length))), sI .i64 0]) (stM 1 (putP (putP s e b) (e + 4) (bytesOf v n)))) := by
  refine ⟨write_does hs hb he, okP_put hs hb, fun n hn => ?_⟩
  have h := okP_put (s := putP s e b) (at_ := e + 4) (okP_put hs hb) (bytesOf_ok n v)
  exact ⟨h, read_does h 1 (.inl rfl) (by omega) he⟩

theorem stage54 {s : Pg} {a o v e : Nat} {b : List Int} (hs : okP s) (hb : isB b) (hl : 12 ≤ b.length) (he : e + b.length ≤ 65536) (hk : a + o = e + 4) :
    Does Try.prog env 7 [.mp 0 0, sI .i64 54, sI .u32 a, sI .u32 o, sI .u32 v] (stM 1 (putP s e b)) (sI .i64 0) (stM 1 (putP (putP s e b) (e + 4) (bytesOf v 4))) ∧
    Does Try.prog env 8 [.mp 0 0, sI .i64 40, sI .u32 a, sI .u32 o] (stM 1 (putP (putP s e b) (e + 4) (bytesOf v 4))) (.tup [sI .u32 ((v % 256 ^ 4 : Nat) : Int), sI .i64 0]) (stM 1 (putP (putP s e b) (e + 4) (bytesOf v 4))) := by
  have h := okP_put (s := putP s e b) (at_ := e + 4) (okP_put hs hb) (bytesOf_ok 4 v)
  have h1 := store54_does (s := putP s e b) (a := a) (o := o) (v := v) (okP_put hs hb) (by omega)
  have h2 := load40_does h (a := a) (o := o) (by omega)
  rw [hk] at h1 h2
  rw [(put_one (n := 4) (by omega) hs hb hl he).2.2] at h2
  exact ⟨h1, h2⟩

theorem stage59 {s : Pg} {a o v e : Nat} {b : List Int} (hs : okP s) (hb : isB b) (hl : 12 ≤ b.length) (he : e + b.length ≤ 65536) (hk : a + o = e + 4) :
    Does Try.prog env 7 [.mp 0 0, sI .i64 59, sI .u32 a, sI .u32 o, sI .u32 v] (stM 1 (putP s e b)) (sI .i64 0) (stM 1 (putP (putP s e b) (e + 4) (bytesOf v 2))) ∧
    Does Try.prog env 8 [.mp 0 0, sI .i64 47, sI .u32 a, sI .u32 o] (stM 1 (putP (putP s e b) (e + 4) (bytesOf v 2))) (.tup [sI .u32 ((v % 256 ^ 2 : Nat) : Int), sI .i64 0]) (stM 1 (putP (putP s e b) (e + 4) (bytesOf v 2))) := by
  have h := okP_put (s := putP s e b) (at_ := e + 4) (okP_put hs hb) (bytesOf_ok 2 v)
  have h1 := store59_does (s := putP s e b) (a := a) (o := o) (v := v) (okP_put hs hb) (by omega)
  have h2 := load47_does h (a := a) (o := o) (by omega)
  rw [hk] at h1 h2
  rw [(put_one (n := 2) (by omega) hs hb hl he).2.2] at h2
  exact ⟨h1, h2⟩

theorem stage58 {s : Pg} {a o v e : Nat} {b : List Int} (hs : okP s) (hb : isB b) (hl : 12 ≤ b.length) (he : e + b.length ≤ 65536) (hk : a + o = e + 4) :
    Does Try.prog env 7 [.mp 0 0, sI .i64 58, sI .u32 a, sI .u32 o, sI .u32 v] (stM 1 (putP s e b)) (sI .i64 0) (stM 1 (putP (putP s e b) (e + 4) (bytesOf v 1))) ∧
    Does Try.prog env 8 [.mp 0 0, sI .i64 45, sI .u32 a, sI .u32 o] (stM 1 (putP (putP s e b) (e + 4) (bytesOf v 1))) (.tup [sI .u32 ((v % 256 ^ 1 : Nat) : Int), sI .i64 0]) (stM 1 (putP (putP s e b) (e + 4) (bytesOf v 1))) := by
  have h := okP_put (s := putP s e b) (at_ := e + 4) (okP_put hs hb) (bytesOf_ok 1 v)
  have h1 := store58_does (s := putP s e b) (a := a) (o := o) (v := v) (okP_put hs hb) (by omega)
  have h2 := load45_does h (a := a) (o := o) (by omega)
  rw [hk] at h1 h2
  rw [(put_one (n := 1) (by omega) hs hb hl he).2.2] at h2
  exact ⟨h1, h2⟩

theorem v256 (v : Nat) (hv : v < 4294967296) : ((v % 256 ^ 4 : Nat) : Int) = IntKind.u32.wrap (((BitVec.ofInt 32 (v : Int) &&& BitVec.ofInt 32 4294967295).toNat : Nat) : Int) ∧
    ((v % 256 ^ 2 : Nat) : Int) = IntKind.u32.wrap (((BitVec.ofInt 32 (v : Int) &&& BitVec.ofInt 32 65535).toNat : Nat) : Int) ∧ ((v % 256 ^ 1 : Nat) : Int) = IntKind.u32.wrap (((BitVec.ofInt 32 (v : Int) &&& BitVec.ofInt 32 255).toNat : Nat) : Int) :=
  ⟨(andM hv 32 (by omega)).symm, (andM hv 16 (by omega)).symm, (andM hv 8 (by omega)).symm⟩

theorem keeps_does {a o v : Nat} {b : List Int} (ha : a < 4294967296) (ho : o < 4294967296) (hv : v < 4294967296) (hb : isB b) :
    Does Try.prog env 3 [sI .u32 a, sI .u32 o, sI .u32 v, aB b] [] (sB true) [] := by
  have hfrom := u64add (a := a) (i := o) (by omega)
  by_cases c1 : (b.length : Int) < 12
  · refine does_of_tree names (lc_tree a o v 0 b id (fun _ c => c) (fun _ _ => 0) id []) ?_
    exact ⟨awake_does, fresh_does, fun _ => rfl, fun h => absurd c1 (by simpa using h)⟩
  by_cases c2 : (b.length : Int) > 100
  · refine does_of_tree names (lc_tree a o v 0 b id (fun _ c => c) (fun _ _ => 0) id []) ?_
    exact ⟨awake_does, fresh_does, fun _ => rfl, fun _ => ⟨fun _ => rfl, fun h => absurd c2 (by simpa using h)⟩⟩
  by_cases c3 : ((a + o : Nat) : Int) < 4
  · refine does_of_tree names (lc_tree a o v 0 b id (fun _ c => c) (fun _ _ => 0) id []) ?_
    simp only [lcTree, Tree.ok, hfrom]
    exact ⟨awake_does, fresh_does, fun _ => trivial, fun _ => ⟨fun _ => trivial, fun _ => ⟨trivial, fun _ => trivial, fun h => absurd c3 (by simpa using h)⟩⟩⟩
  have hsum : IntKind.u64.wrap (IntKind.u64.wrap (((a + o : Nat) : Int) + IntKind.u64.wrap (b.length : Int)) - 4) = ((a + o + b.length - 4 : Nat) : Int) := by
    rw [wU64, wU64, wU64]; omega
  by_cases c4 : ((a + o + b.length - 4 : Nat) : Int) > 65536
  · refine does_of_tree names (lc_tree a o v 0 b id (fun _ c => c) (fun _ _ => 0) id []) ?_
    simp only [lcTree, Tree.ok, hfrom, hsum]
    exact ⟨awake_does, fresh_does, fun _ => trivial, fun _ => ⟨fun _ => trivial, fun _ => ⟨trivial, fun _ => trivial, fun _ => ⟨fun _ => trivial, fun h => absurd c4 (by simpa using h)⟩⟩⟩⟩
  obtain ⟨e, hk⟩ : ∃ e, a + o = e + 4 := ⟨a + o - 4, by omega⟩
  have hl : 12 ≤ b.length := by omega
  have he : e + b.length ≤ 65536 := by omega
  have hbase : IntKind.u32.wrap (IntKind.u64.wrap (((a + o : Nat) : Int) - 4)) = (e : Int) := by rw [wU64, wU32]; omega
  have hln : IntKind.u32.wrap (b.length : Int) = (b.length : Int) := u32In (by omega) (by omega)
  obtain ⟨x1, x2, x3⟩ := v256 v hv
  obtain ⟨w1, k1, r1⟩ := stage (s := none) (v := v) trivial hb hl he hk
  obtain ⟨p1, l1⟩ := stage54 (s := none) (v := v) trivial hb hl he hk
  obtain ⟨q1, g1⟩ := r1 4 (by omega)
  obtain ⟨t1, d1, -⟩ := put_one (v := v) (n := 4) (by omega) (s := none) trivial hb hl he
  generalize hs1 : putP none e b = s1 at *
  generalize hs2 : putP s1 (e + 4) (bytesOf v 4) = s2 at *
  obtain ⟨w2, k2, r2⟩ := stage (v := v) q1 hb hl he hk
  obtain ⟨p2, l2⟩ := stage59 (v := v) q1 hb hl he hk
  obtain ⟨q2, g2⟩ := r2 2 (by omega)
  obtain ⟨t2, d2, -⟩ := put_one (v := v) (n := 2) (by omega) q1 hb hl he
  generalize hs3 : putP s2 e b = s3 at *
  generalize hs4 : putP s3 (e + 4) (bytesOf v 2) = s4 at *
  obtain ⟨w3, k3, r3⟩ := stage (v := v) q2 hb hl he hk
  obtain ⟨p3, l3⟩ := stage58 (v := v) q2 hb hl he hk
  obtain ⟨q3, g3⟩ := r3 1 (by omega)
  obtain ⟨t3, d3, -⟩ := put_one (v := v) (n := 1) (by omega) q2 hb hl he
  generalize hs5 : putP s4 e b = s5 at *
  generalize hs6 : putP s5 (e + 4) (bytesOf v 1) = s6 at *
  have g4 := read_does q3 (a := e) (q := b.length) 2 (.inr rfl) (by omega) he
  have g5 := pages_does s6 2
  have m1 := must_ok x1 (n := 8) (k := b.length) (by omega) (by omega)
  have m2 := must_ok x2 (n := 6) (k := b.length) (by omega) (by omega)
  have m3 := must_ok x3 (n := 5) (k := b.length) (by omega) (by omega)
  have m4 : (Nat.ble 4 b.length && true && true && (Nat.ble 4 b.length && true && true && true) && true) = true := by rw [Nat.ble_eq_true_of_le (by omega : 4 ≤ b.length)]; rfl
  have w54 : wd 54 = 4 := rfl
  have w59 : wd 59 = 2 := rfl
  have w58 : wd 58 = 1 := rfl
  have w40 : wd 40 = 4 := rfl
  have w47 : wd 47 = 2 := rfl
  have w45 : wd 45 = 1 := rfl
  cases s1 with
  | some y1 =>
    rw [putP_some] at hs2
    subst hs2
    rw [putP_some] at hs3
    subst hs3
    rw [putP_some] at hs4
    subst hs4
    rw [putP_some] at hs5
    subst hs5
    rw [putP_some] at hs6
    subst hs6
    refine does_of_tree names (la_tree a o v e b (fun c => encB (putL (dec c) e b)) (fun op c => encB (putL (dec c) (e + 4) (bytesOf v (wd op)))) (fun op _ => ((v % 256 ^ wd op : Nat) : Int)) (fun c => encB (readP (some (dec c)) e b.length)) (encB y1)) ?_
    simp only [laTree, Tree.ok, hfrom, hsum, hbase, hln, dec_enc, w54, w59, w58, w40, w47, w45]
    exact ⟨awake_does, fresh_does, fun _ => trivial, fun _ => ⟨fun _ => trivial, fun _ => ⟨trivial, fun _ => trivial, fun _ => ⟨fun _ => trivial, fun _ => ⟨trivial, w1, p1, l1, trivial, g1, same_take t1 _, same_drop 8 d1 _ _ _, m1,
      w2, p2, l2, trivial, g2, same_take t2 _, same_drop 6 d2 _ _ _, m2, w3, p3, l3, trivial, g3, same_take t3 _, same_drop 5 d3 _ _ _, m3, trivial, g4, same_take t3 _, g5, m4, trivial, trivial⟩⟩⟩⟩⟩
  | none =>
    cases s2 with
    | some y2 =>
      rw [putP_some] at hs3
      subst hs3
      rw [putP_some] at hs4
      subst hs4
      rw [putP_some] at hs5
      subst hs5
      rw [putP_some] at hs6
      subst hs6
      refine does_of_tree names (lb_tree a o v e b (fun c => encB (putL (dec c) e b)) (fun op c => encB (putL (dec c) (e + 4) (bytesOf v (wd op)))) (fun op _ => ((v % 256 ^ wd op : Nat) : Int)) (fun c => encB (readP (some (dec c)) e b.length)) (encB y2)) ?_
      simp only [lbTree, Tree.ok, hfrom, hsum, hbase, hln, dec_enc, w54, w59, w58, w40, w47, w45]
      exact ⟨awake_does, fresh_does, fun _ => trivial, fun _ => ⟨fun _ => trivial, fun _ => ⟨trivial, fun _ => trivial, fun _ => ⟨fun _ => trivial, fun _ => ⟨trivial, w1, p1, l1, trivial, g1, same_take t1 _, same_drop 8 d1 _ _ _, m1,
      w2, p2, l2, trivial, g2, same_take t2 _, same_drop 6 d2 _ _ _, m2, w3, p3, l3, trivial, g3, same_take t3 _, same_drop 5 d3 _ _ _, m3, trivial, g4, same_take t3 _, g5, m4, trivial, trivial⟩⟩⟩⟩⟩
    | none =>
      have hz : v = 0 := by
        have h := (put_one (v := v) (n := 4) (by omega) (s := none) trivial hb hl he).2.2
        rw [hs1, hs2] at h
        have h0 : leV (readP none (e + 4) 4) = 0 := rfl
        rw [h0] at h
        omega
      subst hz
      obtain rfl : none = s3 := hs1.symm.trans hs3
      obtain rfl : none = s4 := hs4
      obtain rfl : none = s5 := hs1.symm.trans hs5
      obtain rfl : none = s6 := hs6
      refine does_of_tree names (lc_tree a o 0 e b id (fun _ c => c) (fun _ _ => 0) id (encB (readP none e b.length))) ?_
      simp only [lcTree, Tree.ok, hfrom, hsum, hbase, hln]
      exact ⟨awake_does, fresh_does, fun _ => trivial, fun _ => ⟨fun _ => trivial, fun _ => ⟨trivial, fun _ => trivial, fun _ => ⟨fun _ => trivial, fun _ => ⟨trivial, w1, p1, l1, trivial, g1, same_take t1 _, same_drop 8 d1 _ _ _, m1,
      w2, p2, l2, trivial, g2, same_take t2 _, same_drop 6 d2 _ _ _, m2, w3, p3, l3, trivial, g3, same_take t3 _, same_drop 5 d3 _ _ _, m3, trivial, g4, same_take t3 _, g5, m4, trivial, trivial⟩⟩⟩⟩⟩

end Go.Proofs.Ytiacpconafalhaa.N
