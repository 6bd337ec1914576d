/-
  stack.Check and the frames' copy: what they tell of frames that are as they should be.
  The package stack: what its functions tell of a stand that may be.
-/
import Derived.Test.YtgbphddecpjlhaaGreatDoorMH

section
set_option linter.unusedSimpArgs false
namespace Go.Proofs.YtgbphddecpjlhaaGreatDoor.N
open Go Go.Am

structure Fr where
  op : Int
  base : Int
  res : Int
  dead : Bool

def encFs : List Fr → List PV
  | [] => []
  | f :: r => frC f.op f.base f.res f.dead ++ encFs r

theorem encFs_length : ∀ l : List Fr, (encFs l).length = l.length * 4
  | [] => rfl
  | f :: r => by simp [encFs, encFs_length r]; omega

theorem encFs_append : ∀ l m : List Fr, encFs (l ++ m) = encFs l ++ encFs m
  | [], _ => rfl
  | f :: r, m => by simp [encFs, encFs_append r m]

theorem fr_cell : ∀ {l : List Fr} {k : Nat} {f : Fr}, l[k]? = some f → ∀ (ex : List PV) (c : Nat), c < 4 → (List.map AV.p (encFs l ++ ex)).getD (k * 4 + c) .junk = (List.map AV.p (frC f.op f.base f.res f.dead)).getD c .junk
  | [], _, _, h, _, _, _ => by simp at h
  | y :: l, 0, x, h, ex, c, hc => by
    simp only [List.getElem?_cons_zero, Option.some.injEq] at h; subst h
    rw [encFs, Nat.zero_mul, Nat.zero_add, List.append_assoc, List.map_append, List.getD_eq_getElem?_getD, List.getD_eq_getElem?_getD, List.getElem?_append_left (by simpa using hc)]
  | y :: l, k + 1, x, h, ex, c, hc => by
    have ih := fr_cell (l := l) (k := k) (f := x) (by simpa using h) ex c hc
    rw [List.getD_eq_getElem?_getD] at ih
    rw [encFs, List.append_assoc, List.map_append, List.getD_eq_getElem?_getD, List.getElem?_append_right (by simp; omega), show (k + 1) * 4 + c - (List.map AV.p (frC y.op y.base y.res y.dead)).length = k * 4 + c by simp; omega]
    exact ih

theorem fr_cells {l : List Fr} {k : Nat} {f : Fr} (h : l[k]? = some f) (ex : List PV) :
    (List.map AV.p (encFs l ++ ex)).getD (k * 4) .junk = sI .i64 f.op ∧ (List.map AV.p (encFs l ++ ex)).getD (k * 4 + 1) .junk = sI .i64 f.base ∧
    (List.map AV.p (encFs l ++ ex)).getD (k * 4 + 2) .junk = sI .i64 f.res ∧ (List.map AV.p (encFs l ++ ex)).getD (k * 4 + 3) .junk = sB f.dead :=
  ⟨fr_cell h ex 0 (by omega), fr_cell h ex 1 (by omega), fr_cell h ex 2 (by omega), fr_cell h ex 3 (by omega)⟩

def okFs (h : Int) : Int → List Fr → Prop
  | _, [] => True
  | b, f :: r => (f.op = 2 ∨ f.op = 3 ∨ f.op = 4 ∨ f.op = 5) ∧ b ≤ f.base ∧ f.base ≤ h ∧ 0 ≤ f.res ∧ f.res ≤ 1 ∧ okFs h f.base r

def okStand (h : Int) : List Fr → Prop
  | [] => False
  | f :: r => f.op = 0 ∧ f.base = 0 ∧ 0 ≤ f.res ∧ f.res ≤ 1 ∧ okFs h 0 r ∧ 0 ≤ h ∧ h ≤ 1073741824 ∧ r.length + 1 ≤ 1000

def ckLC (f : FuncId) (_ : List AV) (m : Mem) : Option (AV × Mem) := cond (Nat.beq f 158) (some (sB true, m)) none
def ckLS (_h _b : Int) (_n i : Nat) (_cs : List PV) (op base res : Int) (dead : Bool) : FuncId → Nat → Nat → Option (AV → AV) := shapeAt [(142, 7, 2, .agg [sI .i64 op, sI .i64 base, sI .i64 res, sB dead]), (142, 12, 0, sI .i64 ((i + 1 : Nat) : Int))]
noncomputable def clnOrc : Orc := orcL noCall noLed [] [] [(143, 4, 2)]
def clnSc : Sc := .fin
noncomputable def clnTree (k : Nat) (cs : List PV) : Tree :=
 (.must (allP (List.take ((k + 1) * 4) (List.drop 0 (List.map AV.p cs))) && (0 + (k + 1) * 4).ble (List.map AV.p cs).length && (((0 + (k + 1)) * 32).ble lim && (0 + (k + 1)).ble lim) && true && true)
 (.out (.ret (.ms 1 0 (0 + (k + 1)) 4 none) [.ob (ObK.gr 135 true) (List.map keepP (List.map AV.p cs)), .ob (ObK.gr 135 true) (List.map keepP ([] ++ List.map AV.p (List.map pvOf (List.take ((k + 1) * 4) (List.drop 0 (List.map AV.p cs))))))])))
theorem cln_tree (k : Nat) (cs : List PV) : growF Tryz.prog env clnOrc 1000000 143 ([AV.ms 0 0 (k + 1) 4 Option.none]) ([frB cs]) clnSc = clnTree k cs := by kernel_rfl

noncomputable def ck0Orc : Orc := orcL noCall noLed [(142, 1)] [(142, 2, 4), (142, 2, 9), (142, 2, 15), (142, 0, 0)] []
def ck0Sc : Sc := (.fork (.lit (.lit (.lit .fin))) (.fork (.lit (.lit .fin)) (.fork (.lit .fin) .fin)))
noncomputable def ck0Tree (h : Int) (n : Nat) (cs : List PV) : Tree :=
 (.test (decide (h < 0))
 (.out (.ret (sI .i64 2) [.ob (ObK.gr 135 true) (List.map keepP (List.map AV.p cs))]))
 (.test (decide (h > 1073741824))
 (.out (.ret (sI .i64 2) [.ob (ObK.gr 135 true) (List.map keepP (List.map AV.p cs))]))
 (.test (decide ((↑n : Int) < 1))
 (.out (.ret (sI .i64 2) [.ob (ObK.gr 135 true) (List.map keepP (List.map AV.p cs))]))
 (.test (decide ((↑n : Int) > 1000))
 (.out (.ret (sI .i64 2) [.ob (ObK.gr 135 true) (List.map keepP (List.map AV.p cs))]))
 (.at (bodyCfg Tryz.prog env 142 1 [.mp 1 0, sI .i64 0, .ms 0 0 n 4 none, sI .i64 (↑n : Int), sI .i64 0] ([.ob (ObK.gr 135 true) (List.map keepP (List.map AV.p cs)), .ac [sI .i64 h, .ms 0 0 n 4 none]]) 1 85))))))
theorem ck0_tree (h : Int) (n : Nat) (cs : List PV) : growF Tryz.prog env ck0Orc 1000000 142 ([AV.agg [sI IntKind.i64 h, AV.ms 0 0 n 4 Option.none]]) ([frB cs]) ck0Sc = ck0Tree h n cs := by kernel_rfl

noncomputable def ckLOrc (h b : Int) (n : Nat) (i : Nat) (cs : List PV) (op base res : Int) (dead : Bool) : Orc := orcS ckLC noLed [(142, 1)] [(142, 0, 2), (142, 8, 3), (142, 8, 8), (142, 9, 3), (142, 9, 6), (142, 9, 19), (142, 9, 26), (142, 9, 31), (142, 0, 3)] [(142, 7, 1), (142, 7, 2)] (ckLS h b n i cs op base res dead)
def ckLSc : Sc := (.fork (.fork (.fork (.fork (.yes (.lit (.lit (.lit (.lit .fin))))) (.fork (.lit (.lit (.lit .fin))) (.fork (.lit (.lit .fin)) (.fork (.lit .fin) .fin)))) (.lit (.yes (.lit (.lit (.lit (.lit .fin))))))) (.lit (.lit (.no (.fork (.lit (.lit (.lit .fin))) (.fork (.lit (.lit .fin)) (.fork (.lit .fin) .fin))))))) .fin)
noncomputable def ckLTree (h b : Int) (n : Nat) (i : Nat) (cs : List PV) (op base res : Int) (dead : Bool) : Tree :=
 (.test (decide ((↑i : Int) < (↑n : Int)))
 (.must (inB (↑i : Int) n && true && true)
 (.must ((0 + (↑i : Int).toNat * 4 + 4).ble (List.map AV.p cs).length && ((normA (some (TypeInfo.mk (TypeDesc.int IntKind.i64) "int" 1 8 false 8 8 (some (.int .i64 0)) true #[]).desc) ((List.map AV.p cs).getD (0 + (↑i : Int).toNat * 4) .junk)).snd && ((normA (some (TypeInfo.mk (TypeDesc.int IntKind.i64) "int" 1 8 false 8 8 (some (.int .i64 0)) true #[]).desc) ((List.map AV.p cs).getD (0 + (↑i : Int).toNat * 4 + 1) .junk)).snd && ((normA (some (TypeInfo.mk (TypeDesc.int IntKind.i64) "int" 1 8 false 8 8 (some (.int .i64 0)) true #[]).desc) ((List.map AV.p cs).getD (0 + (↑i : Int).toNat * 4 + 1 + 1) .junk)).snd && ((normA (some (TypeInfo.mk TypeDesc.bool "bool" 1 1 false 1 1 (some (.bool false)) true #[]).desc) ((List.map AV.p cs).getD (0 + (↑i : Int).toNat * 4 + 1 + 1 + 1) .junk)).snd && true)))) && true)
 (.need (AV.agg [(normA (Option.some (TypeInfo.mk (TypeDesc.int IntKind.i64) "int" 1 8 false 8 8 (Option.some (Value.int IntKind.i64 0)) true #[]).desc) ((List.map AV.p cs).getD (0 + (↑i : Int).toNat * 4) AV.junk)).fst, (normA (Option.some (TypeInfo.mk (TypeDesc.int IntKind.i64) "int" 1 8 false 8 8 (Option.some (Value.int IntKind.i64 0)) true #[]).desc) ((List.map AV.p cs).getD (0 + (↑i : Int).toNat * 4 + 1) AV.junk)).fst, (normA (Option.some (TypeInfo.mk (TypeDesc.int IntKind.i64) "int" 1 8 false 8 8 (Option.some (Value.int IntKind.i64 0)) true #[]).desc) ((List.map AV.p cs).getD (0 + (↑i : Int).toNat * 4 + 1 + 1) AV.junk)).fst, (normA (Option.some (TypeInfo.mk TypeDesc.bool "bool" 1 1 false 1 1 (Option.some (Value.bool false)) true #[]).desc) ((List.map AV.p cs).getD (0 + (↑i : Int).toNat * 4 + 1 + 1 + 1) AV.junk)).fst] = AV.agg [sI IntKind.i64 op, sI IntKind.i64 base, sI IntKind.i64 res, sB dead])
 (.test ((↑i : Int) == 0)
 (.test (op == 0)
 (.test (!base == 0)
 (.must ((↑i : Int) == 0)
 (.out (.ret (sI .i64 2) [.ob (ObK.gr 135 true) (List.map keepP (List.map AV.p cs))])))
 (.test (decide (base < b))
 (.out (.ret (sI .i64 2) [.ob (ObK.gr 135 true) (List.map keepP (List.map AV.p cs))]))
 (.test (decide (base > h))
 (.out (.ret (sI .i64 2) [.ob (ObK.gr 135 true) (List.map keepP (List.map AV.p cs))]))
 (.test (decide (res < 0))
 (.out (.ret (sI .i64 2) [.ob (ObK.gr 135 true) (List.map keepP (List.map AV.p cs))]))
 (.test (decide (res > 1))
 (.out (.ret (sI .i64 2) [.ob (ObK.gr 135 true) (List.map keepP (List.map AV.p cs))]))
 (.need (sI .i64 (IntKind.i64.wrap ((↑i : Int) + 1)) = sI IntKind.i64 (↑(i + 1) : Int))
 (.at (bodyCfg Tryz.prog env 142 1 [.mp 1 0, sI .i64 base, .ms 0 0 n 4 none, sI .i64 (↑n : Int), sI .i64 (↑(i + 1) : Int)] ([.ob (ObK.gr 135 true) (List.map keepP (List.map AV.p cs)), .ac [sI .i64 h, .ms 0 0 n 4 none]]) 1 85))))))))
 (.must ((↑i : Int) == 0)
 (.out (.ret (sI .i64 2) [.ob (ObK.gr 135 true) (List.map keepP (List.map AV.p cs))]))))
 (.must (!((↑i : Int) == 0))
 (.call ⟨158, [sI .i64 op], [], sB true, []⟩
 (.test (decide (base < b))
 (.out (.ret (sI .i64 2) [.ob (ObK.gr 135 true) (List.map keepP (List.map AV.p cs))]))
 (.test (decide (base > h))
 (.out (.ret (sI .i64 2) [.ob (ObK.gr 135 true) (List.map keepP (List.map AV.p cs))]))
 (.test (decide (res < 0))
 (.out (.ret (sI .i64 2) [.ob (ObK.gr 135 true) (List.map keepP (List.map AV.p cs))]))
 (.test (decide (res > 1))
 (.out (.ret (sI .i64 2) [.ob (ObK.gr 135 true) (List.map keepP (List.map AV.p cs))]))
 (.need (sI .i64 (IntKind.i64.wrap ((↑i : Int) + 1)) = sI IntKind.i64 (↑(i + 1) : Int))
 (.at (bodyCfg Tryz.prog env 142 1 [.mp 1 0, sI .i64 base, .ms 0 0 n 4 none, sI .i64 (↑n : Int), sI .i64 (↑(i + 1) : Int)] ([.ob (ObK.gr 135 true) (List.map keepP (List.map AV.p cs)), .ac [sI .i64 h, .ms 0 0 n 4 none]]) 1 85)))))))))))))
 (.out (.ret (sI .i64 0) [.ob (ObK.gr 135 true) (List.map keepP (List.map AV.p cs))])))
theorem ckL_tree (h b : Int) (n : Nat) (i : Nat) (cs : List PV) (op base res : Int) (dead : Bool) : grow Tryz.prog env (ckLOrc h b n i cs op base res dead) 1000000 true (bodyCfg Tryz.prog env 142 1 ([AV.mp 1 0, sI IntKind.i64 b, AV.ms 0 0 n 4 Option.none, sI IntKind.i64 (↑n : Int), sI IntKind.i64 (↑i : Int)]) ([frB cs, Blk.ac [sI IntKind.i64 h, AV.ms 0 0 n 4 Option.none]]) 1 85) ckLSc atEnd = ckLTree h b n i cs op base res dead := by kernel_rfl

theorem list_does {op : Int} (h : op = 2 ∨ op = 3 ∨ op = 4 ∨ op = 5) : Does Tryz.prog env 158 [sI .i64 op] [] (sB true) [] := by
  rcases h with rfl | rfl | rfl | rfl
  · exact does_fast names calls_nil (n := 1000) (by kernel_rfl)
  · exact does_fast names calls_nil (n := 1000) (by kernel_rfl)
  · exact does_fast names calls_nil (n := 1000) (by kernel_rfl)
  · exact does_fast names calls_nil (n := 1000) (by kernel_rfl)

@[simp] theorem map_pv (l : List PV) : List.map pvOf (List.map AV.p l) = l := by
  rw [List.map_map]
  exact List.map_id' _

theorem allP_map : ∀ l : List PV, allP (List.map AV.p l) = true
  | [] => rfl
  | _ :: l => allP_map l

theorem clone_does (k : Nat) (hk : k ≤ 1000) (cs : List PV) (hc : (k + 1) * 4 ≤ cs.length) :
    Does Tryz.prog env 143 [.ms 0 0 (k + 1) 4 none] [frB cs] (.ms 1 0 (k + 1) 4 none) [frB cs, frB (cs.take ((k + 1) * 4))] := by
  refine does_of_tree names (cln_tree k cs) ?_
  have hl : lim = 70368744177664 := rfl
  simp only [clnTree, Tree.ok, List.drop_zero, Nat.zero_add, keep_map, map_pv, List.nil_append, ← List.map_take, allP_map, Bool.true_and, List.length_map, Bool.and_true, Bool.and_eq_true, Nat.ble_eq]
  exact ⟨⟨hc, by omega, by omega⟩, trivial⟩

theorem ik : (IntKind.i64 == IntKind.i64) = true := rfl

set_option maxHeartbeats 1000000 in
theorem chk_loop (h : Int) (fs : List Fr) (ex : List PV) (hn : fs.length ≤ 1000) : ∀ (r i : Nat) (b : Int), i + r = fs.length → 1 ≤ i → okFs h b (fs.drop i) →
    Am.Good Tryz.prog env (bodyCfg Tryz.prog env 142 1 [.mp 1 0, sI .i64 b, .ms 0 0 fs.length 4 none, sI .i64 fs.length, sI .i64 i] [frB (encFs fs ++ ex), .ac [sI .i64 h, .ms 0 0 fs.length 4 none]] 1 85) (.ret (sI .i64 0) [frB (encFs fs ++ ex)]) := by
  intro r
  induction r with
  | zero =>
    intro i b hi h1 hok
    refine good_of_tree names (ckL_tree h b fs.length i (encFs fs ++ ex) 0 0 0 true) ?_
    simp only [ckLTree, Tree.ok]
    refine ⟨fun q => ?_, fun _ => by rw [keep_map]⟩
    simp only [decide_eq_true_eq] at q
    omega
  | succ r ih =>
    intro i b hi h1 hok
    have hkl : i < fs.length := by omega
    have hg : fs[i]? = some fs[i] := List.getElem?_eq_getElem hkl
    rw [List.drop_eq_getElem_cons hkl] at hok
    generalize fs[i] = f at *
    obtain ⟨o1, o2, o3, o4, o5, o6⟩ := hok
    obtain ⟨c0, c1, c2, c3⟩ := fr_cells hg ex
    have ih := ih (i + 1) f.base (by omega) (by omega) o6
    have w1 : IntKind.i64.wrap ((i : Int) + 1) = ((i + 1 : Nat) : Int) := by rw [i64In (by omega) (by omega)]; rfl
    have hlen : (encFs fs ++ ex).length = fs.length * 4 + ex.length := by rw [List.length_append, encFs_length]
    refine good_of_tree names (ckL_tree h b fs.length i (encFs fs ++ ex) f.op f.base f.res f.dead) ?_
    simp only [ckLTree, Tree.ok, Int.toNat_natCast, Nat.zero_add, c0, c1, c2, c3, normA, normP, isInt, isBool, pvInt, pvBool, keep_map, w1, List.length_map, hlen]
    have nz : ((i : Int) == 0) = false := by simp; omega
    have d1 : decide (f.base < b) = false := by simp; omega
    have d2 : decide (f.base > h) = false := by simp; omega
    have d3 : decide (f.res < 0) = false := by simp; omega
    have d4 : decide (f.res > 1) = false := by simp; omega
    have hb : decide ((i : Int) < (fs.length : Int)) = true := by simp only [decide_eq_true_eq]; omega
    simp only [nz, d1, d2, d3, d4, hb, ik, inB, Bool.not_false, Bool.false_eq_true, Bool.true_eq_false, false_implies, true_implies, and_true, true_and, Bool.and_true, Bool.true_and, Nat.ble_eq, Bool.and_eq_true, decide_eq_true_eq]
    exact ⟨by omega, by omega, list_does o1, ih⟩

set_option maxHeartbeats 1000000 in
theorem chk_does (h : Int) (fs : List Fr) (ex : List PV) (hok : okStand h fs) :
    Does Tryz.prog env 142 [.agg [sI .i64 h, .ms 0 0 fs.length 4 none]] [frB (encFs fs ++ ex)] (sI .i64 0) [frB (encFs fs ++ ex)] := by
  cases fs with
  | nil => exact hok.elim
  | cons f r =>
    obtain ⟨o1, o2, o3, o4, o5, o6, o7, o8⟩ := hok
    have loop := chk_loop h (f :: r) ex (by simpa using o8) r.length 1 f.base (by simp; omega) (by omega) (by rw [o2]; exact o5)
    have hg : (f :: r)[0]? = some f := rfl
    obtain ⟨c0, c1, c2, c3⟩ := fr_cells hg ex
    have hlen : (encFs (f :: r) ++ ex).length = (f :: r).length * 4 + ex.length := by rw [List.length_append, encFs_length]
    have hl2 : (f :: r).length = r.length + 1 := rfl
    refine does_of_tree names (ck0_tree h (f :: r).length (encFs (f :: r) ++ ex)) ?_
    simp only [ck0Tree, Tree.ok, keep_map]
    have e1 : decide (h < 0) = false := by simp; omega
    have e2 : decide (h > 1073741824) = false := by simp; omega
    have e3 : decide (((f :: r).length : Int) < 1) = false := by simp; omega
    have e4 : decide (((f :: r).length : Int) > 1000) = false := by simp; omega
    simp only [e1, e2, e3, e4]
    refine ⟨(fun q => by cases q), fun _ => ⟨(fun q => by cases q), fun _ => ⟨(fun q => by cases q), fun _ => ⟨(fun q => by cases q), fun _ => ?_⟩⟩⟩⟩
    have tr := ckL_tree h 0 (f :: r).length 0 (encFs (f :: r) ++ ex) f.op f.base f.res f.dead
    refine good_of_tree names tr ?_
    simp only [ckLTree, Tree.ok, Int.toNat_natCast, Nat.zero_add, Nat.zero_mul, normA, normP, isInt, isBool, pvInt, pvBool, keep_map, List.length_map, hlen]
    simp only [Nat.zero_mul, Nat.zero_add] at c0 c1 c2 c3
    have d1 : decide (f.base < 0) = false := by simp; omega
    have d2 : decide (f.base > h) = false := by simp; omega
    have d3 : decide (f.res < 0) = false := by simp; omega
    have d4 : decide (f.res > 1) = false := by simp; omega
    have d5 : (!f.base == 0) = false := by simp [o2]
    have d6 : (f.op == 0) = true := by simp [o1]
    have d7 : decide (((0 : Nat) : Int) < ((f :: r).length : Int)) = true := by simp only [decide_eq_true_eq]; omega
    have d8 : (((0 : Nat) : Int) == 0) = true := rfl
    simp only [c0, c1, c2, c3, d1, d2, d3, d4, d5, d6, d7, d8, ik, inB, Bool.not_true, Bool.false_eq_true, Bool.true_eq_false, false_implies, true_implies, and_true, true_and, Bool.and_true, Bool.true_and, Nat.ble_eq, Bool.and_eq_true, decide_eq_true_eq]
    exact ⟨by omega, by omega, rfl, loop⟩

end Go.Proofs.YtgbphddecpjlhaaGreatDoor.N
end

section
set_option linter.unusedSimpArgs false
namespace Go.Proofs.YtgbphddecpjlhaaGreatDoor.N
open Go Go.Am

def stC (cl : List PV) (k : Nat) (f : FuncId) (m : Mem) : Option (AV × Mem) := cond (Nat.beq f 142) (some (sI .i64 0, m)) (cond (Nat.beq f 143) (some (.ms 1 0 (k+1) 4 none, m ++ [frB cl])) none)
def spT (k : Nat) (base res : Int) (dead b : Bool) : List (Nat × Nat × AV) := [(119, 15, sI .i64 base), (119, 37, sI .i64 base), (119, 22, sB dead), (119, 18, sB b), (118, 11, sI .i64 res), (118, 15, sI .i64 base), (118, 41, sI .i64 k)]
def spEF (_h : Int) (k : Nat) (_cs _cl : List PV) (_op base res : Int) (dead : Bool) (_n : Int) : Env := envW (spT k base res dead false)
def spET (_h : Int) (k : Nat) (_cs _cl : List PV) (_op base res : Int) (dead : Bool) (_n : Int) : Env := envW (spT k base res dead true)
def spC (_h : Int) (k : Nat) (_cs cl : List PV) (_op _base _res : Int) (_dead : Bool) (_n : Int) (f : FuncId) (_ : List AV) (m : Mem) : Option (AV × Mem) := stC cl k f m
def spS (_h : Int) (k : Nat) (_cs _cl : List PV) (_op base _res : Int) (_dead : Bool) (_n : Int) : FuncId → Nat → Nat → Option (AV → AV) := shapeAt [(117, 5, 6, sI .i64 k), (151, 2, 5, sI .i64 base)]
def stuC (_h : Int) (k : Nat) (_cs cl : List PV) (_op _base _res : Int) (_dead : Bool) (_n : Int) (f : FuncId) (_ : List AV) (m : Mem) : Option (AV × Mem) := cond (Nat.beq f 142) (some (sI .i64 0, m)) (cond (Nat.beq f 143) (some (.ms 1 0 (k+1) 4 none, m ++ [frB cl])) none)
def ledEn (h : Int) (k : Nat) (_cs cl : List PV) (_op _base _res : Int) (_dead : Bool) (_n : Int) (f : FuncId) (_ : List AV) (m : Mem) : Option (AV × Mem) := cond (Nat.beq f 158) (some (sB true, m)) (cond (Nat.beq f 117) (some (.tup [.agg [sI .i64 h, .ms 3 0 (k+2) 4 none], sI .i64 0], m ++ [frB cl])) none)
def seE (_h : Int) (_k : Nat) (_cs _cl : List PV) (_op _base _res : Int) (_dead : Bool) (_n : Int) : Env := envW [(153, 13, sB true), (153, 17, sB true)]
noncomputable def spoFOrc (h : Int) (k : Nat) (cs : List PV) (cl : List PV) (op base res : Int) (dead : Bool) (n : Int) : Orc := orcS (spC h k cs cl op base res dead n) noLed [] [(117, 2, 3)] [(117, 5, 7), (119, 0, 0), (119, 0, 1)] (spS h k cs cl op base res dead n)
def spoFSc : Sc := .fin
noncomputable def spoFTree (h : Int) (k : Nat) (cs : List PV) (cl : List PV) (_op base _res : Int) (_dead : Bool) (n : Int) : Tree :=
 (.test (!decide (n ≥ 0))
 (.out (.ret (.tup [.agg [sI .i64 0, .os none 0 0 []], sI .i64 2]) [.ob (ObK.gr 135 true) (List.map keepP (List.map keepP (List.map keepP (List.map keepP (List.map AV.p cs)))))]))
 (.call ⟨142, [.agg [sI .i64 h, .ms 0 0 (k + 1) 4 none]], [.ob (ObK.gr 135 true) (List.map keepP (List.map keepP (List.map AV.p cs)))], sI .i64 0, [.ob (ObK.gr 135 true) (List.map keepP (List.map keepP (List.map AV.p cs)))]⟩
 (.call ⟨143, [.ms 0 0 (k + 1) 4 none], [.ob (ObK.gr 135 true) (List.map keepP (List.map keepP (List.map keepP (List.map keepP (List.map AV.p cs)))))], .ms 1 0 (k + 1) 4 none, [.ob (ObK.gr 135 true) (List.map keepP (List.map keepP (List.map keepP (List.map keepP (List.map AV.p cs))))), .ob (ObK.gr 135 true) (List.map AV.p cl)]⟩
 (.need (sI .i64 (IntKind.i64.wrap ((↑(k + 1) : Int) - 1)) = sI IntKind.i64 (↑k : Int))
 (.must (inB (↑k : Int) (k + 1) && true && true)
 (.must ((0 + (↑k : Int).toNat * 4 + 1 + 1).ble (List.map keepP (List.map keepP (List.map keepP (List.map AV.p cl)))).length && (normA (Tryz.prog.underlying 3) ((List.map keepP (List.map keepP (List.map keepP (List.map AV.p cl)))).getD (0 + (↑k : Int).toNat * 4 + 1) .junk)).snd && true && eqAV (normA (Tryz.prog.underlying 3) ((List.map keepP (List.map keepP (List.map keepP (List.map AV.p cl)))).getD (0 + (↑k : Int).toNat * 4 + 1) .junk)).fst (sI .i64 base) && (eqAV (.p (.sc (.bool (decide (n > IntKind.i64.wrap (h - base)))))) (sB false) && true) && true)
 (.must ((0 + (↑k : Int).toNat * 4 + 1 + 1).ble (List.map keepP (List.map keepP (List.map keepP (List.map AV.p cl)))).length && (normA (Tryz.prog.underlying 3) ((List.map keepP (List.map keepP (List.map keepP (List.map AV.p cl)))).getD (0 + (↑k : Int).toNat * 4 + 1) .junk)).snd && true && eqAV (normA (Tryz.prog.underlying 3) ((List.map keepP (List.map keepP (List.map keepP (List.map AV.p cl)))).getD (0 + (↑k : Int).toNat * 4 + 1) .junk)).fst (sI .i64 base) && true && true)
 (.must true
 (.out (.ret (.tup [.agg [sI .i64 (IntKind.i64.wrap (h - bif true then Min.min n (IntKind.i64.wrap (h - base)) else Max.max n (IntKind.i64.wrap (h - base)))), .ms 1 0 (k + 1) 4 none], sI .i64 0]) [.ob (ObK.gr 135 true) (List.map keepP (List.map keepP (List.map keepP (List.map keepP (List.map keepP (List.map keepP (List.map keepP (List.map keepP (List.map AV.p cs))))))))), .ob (ObK.gr 135 true) (List.map keepP (List.map keepP (List.map keepP (List.map keepP (List.map keepP (List.map keepP (List.map keepP (List.map keepP (List.map keepP (List.map keepP (List.map AV.p cl)))))))))))]))))))))))
theorem spoF_tree (h : Int) (k : Nat) (cs : List PV) (cl : List PV) (op base res : Int) (dead : Bool) (n : Int) : growF Tryz.prog (spEF h k cs cl op base res dead n) (spoFOrc h k cs cl op base res dead n) 1000000 137 ([AV.agg [sI IntKind.i64 h, AV.ms 0 0 (k + 1) 4 Option.none], sI IntKind.i64 n]) ([frB cs]) spoFSc = spoFTree h k cs cl op base res dead n := by kernel_rfl

noncomputable def spoTOrc (h : Int) (k : Nat) (cs : List PV) (cl : List PV) (op base res : Int) (dead : Bool) (n : Int) : Orc := orcS (spC h k cs cl op base res dead n) noLed [] [(117, 2, 3), (119, 0, 0)] [(117, 5, 7), (119, 0, 0), (119, 0, 1)] (spS h k cs cl op base res dead n)
def spoTSc : Sc := .fin
noncomputable def spoTTree (h : Int) (k : Nat) (cs : List PV) (cl : List PV) (_op base _res : Int) (dead : Bool) (n : Int) : Tree :=
 (.test (!decide (n ≥ 0))
 (.out (.ret (.tup [.agg [sI .i64 0, .os none 0 0 []], sI .i64 2]) [.ob (ObK.gr 135 true) (List.map keepP (List.map keepP (List.map keepP (List.map keepP (List.map AV.p cs)))))]))
 (.call ⟨142, [.agg [sI .i64 h, .ms 0 0 (k + 1) 4 none]], [.ob (ObK.gr 135 true) (List.map keepP (List.map keepP (List.map AV.p cs)))], sI .i64 0, [.ob (ObK.gr 135 true) (List.map keepP (List.map keepP (List.map AV.p cs)))]⟩
 (.call ⟨143, [.ms 0 0 (k + 1) 4 none], [.ob (ObK.gr 135 true) (List.map keepP (List.map keepP (List.map keepP (List.map keepP (List.map AV.p cs)))))], .ms 1 0 (k + 1) 4 none, [.ob (ObK.gr 135 true) (List.map keepP (List.map keepP (List.map keepP (List.map keepP (List.map AV.p cs))))), .ob (ObK.gr 135 true) (List.map AV.p cl)]⟩
 (.need (sI .i64 (IntKind.i64.wrap ((↑(k + 1) : Int) - 1)) = sI IntKind.i64 (↑k : Int))
 (.must (inB (↑k : Int) (k + 1) && true && true)
 (.must ((0 + (↑k : Int).toNat * 4 + 1 + 1).ble (List.map keepP (List.map keepP (List.map keepP (List.map AV.p cl)))).length && (normA (Tryz.prog.underlying 3) ((List.map keepP (List.map keepP (List.map keepP (List.map AV.p cl)))).getD (0 + (↑k : Int).toNat * 4 + 1) .junk)).snd && true && eqAV (normA (Tryz.prog.underlying 3) ((List.map keepP (List.map keepP (List.map keepP (List.map AV.p cl)))).getD (0 + (↑k : Int).toNat * 4 + 1) .junk)).fst (sI .i64 base) && (eqAV (.p (.sc (.bool (decide (n > IntKind.i64.wrap (h - base)))))) (sB true) && ((0 + (↑k : Int).toNat * 4 + 3 + 1).ble (List.map keepP (List.map keepP (List.map keepP (List.map AV.p cl)))).length && (normA (Tryz.prog.underlying 4) ((List.map keepP (List.map keepP (List.map keepP (List.map AV.p cl)))).getD (0 + (↑k : Int).toNat * 4 + 3) .junk)).snd && true && eqAV (normA (Tryz.prog.underlying 4) ((List.map keepP (List.map keepP (List.map keepP (List.map AV.p cl)))).getD (0 + (↑k : Int).toNat * 4 + 3) .junk)).fst (.p (.sc (.bool dead))) && true)) && true)
 (.test (!dead)
 (.must true
 (.out (.ret (.tup [.agg [sI .i64 0, .os none 0 0 []], sI .i64 200]) [.ob (ObK.gr 135 true) (List.map keepP (List.map keepP (List.map keepP (List.map keepP (List.map keepP (List.map keepP (List.map keepP (List.map keepP (List.map AV.p cs)))))))))])))
 (.must ((0 + (↑k : Int).toNat * 4 + 1 + 1).ble (List.map keepP (List.map keepP (List.map keepP (List.map AV.p cl)))).length && (normA (Tryz.prog.underlying 3) ((List.map keepP (List.map keepP (List.map keepP (List.map AV.p cl)))).getD (0 + (↑k : Int).toNat * 4 + 1) .junk)).snd && true && eqAV (normA (Tryz.prog.underlying 3) ((List.map keepP (List.map keepP (List.map keepP (List.map AV.p cl)))).getD (0 + (↑k : Int).toNat * 4 + 1) .junk)).fst (sI .i64 base) && true && true)
 (.must true
 (.out (.ret (.tup [.agg [sI .i64 (IntKind.i64.wrap (h - bif true then Min.min n (IntKind.i64.wrap (h - base)) else Max.max n (IntKind.i64.wrap (h - base)))), .ms 1 0 (k + 1) 4 none], sI .i64 0]) [.ob (ObK.gr 135 true) (List.map keepP (List.map keepP (List.map keepP (List.map keepP (List.map keepP (List.map keepP (List.map keepP (List.map keepP (List.map AV.p cs))))))))), .ob (ObK.gr 135 true) (List.map keepP (List.map keepP (List.map keepP (List.map keepP (List.map keepP (List.map keepP (List.map keepP (List.map keepP (List.map keepP (List.map keepP (List.map AV.p cl)))))))))))])))))))))))
theorem spoT_tree (h : Int) (k : Nat) (cs : List PV) (cl : List PV) (op base res : Int) (dead : Bool) (n : Int) : growF Tryz.prog (spET h k cs cl op base res dead n) (spoTOrc h k cs cl op base res dead n) 1000000 137 ([AV.agg [sI IntKind.i64 h, AV.ms 0 0 (k + 1) 4 Option.none], sI IntKind.i64 n]) ([frB cs]) spoTSc = spoTTree h k cs cl op base res dead n := by kernel_rfl

noncomputable def spusOrc (h : Int) (k : Nat) (cs : List PV) (cl : List PV) (op base res : Int) (dead : Bool) (n : Int) : Orc := orcS (spC h k cs cl op base res dead n) noLed [] [(117, 2, 3), (156, 0, 0)] [(117, 5, 7)] (spS h k cs cl op base res dead n)
def spusSc : Sc := .fin
noncomputable def spusTree (h : Int) (k : Nat) (cs : List PV) (cl : List PV) (_op _base _res : Int) (_dead : Bool) (n : Int) : Tree :=
 (.test (!decide (n ≥ 0))
 (.out (.ret (.tup [.agg [sI .i64 0, .os none 0 0 []], sI .i64 2]) [.ob (ObK.gr 135 true) (List.map keepP (List.map keepP (List.map keepP (List.map keepP (List.map AV.p cs)))))]))
 (.call ⟨142, [.agg [sI .i64 h, .ms 0 0 (k + 1) 4 none]], [.ob (ObK.gr 135 true) (List.map keepP (List.map keepP (List.map AV.p cs)))], sI .i64 0, [.ob (ObK.gr 135 true) (List.map keepP (List.map keepP (List.map AV.p cs)))]⟩
 (.call ⟨143, [.ms 0 0 (k + 1) 4 none], [.ob (ObK.gr 135 true) (List.map keepP (List.map keepP (List.map keepP (List.map keepP (List.map AV.p cs)))))], .ms 1 0 (k + 1) 4 none, [.ob (ObK.gr 135 true) (List.map keepP (List.map keepP (List.map keepP (List.map keepP (List.map AV.p cs))))), .ob (ObK.gr 135 true) (List.map AV.p cl)]⟩
 (.need (sI .i64 (IntKind.i64.wrap ((↑(k + 1) : Int) - 1)) = sI IntKind.i64 (↑k : Int))
 (.must (inB (↑k : Int) (k + 1) && true && true)
 (.test (decide (n > IntKind.i64.wrap (1073741824 - h)))
 (.out (.ret (.tup [.agg [sI .i64 0, .os none 0 0 []], sI .i64 8]) [.ob (ObK.gr 135 true) (List.map keepP (List.map keepP (List.map keepP (List.map keepP (List.map keepP (List.map keepP (List.map keepP (List.map keepP (List.map AV.p cs)))))))))]))
 (.out (.ret (.tup [.agg [sI .i64 (IntKind.i64.wrap (h + n)), .ms 1 0 (k + 1) 4 none], sI .i64 0]) [.ob (ObK.gr 135 true) (List.map keepP (List.map keepP (List.map keepP (List.map keepP (List.map keepP (List.map keepP (List.map keepP (List.map keepP (List.map AV.p cs))))))))), .ob (ObK.gr 135 true) (List.map keepP (List.map keepP (List.map keepP (List.map keepP (List.map keepP (List.map keepP (List.map keepP (List.map keepP (List.map keepP (List.map keepP (List.map AV.p cl)))))))))))]))))))))
theorem spus_tree (h : Int) (k : Nat) (cs : List PV) (cl : List PV) (op base res : Int) (dead : Bool) (n : Int) : growF Tryz.prog (spEF h k cs cl op base res dead n) (spusOrc h k cs cl op base res dead n) 1000000 139 ([AV.agg [sI IntKind.i64 h, AV.ms 0 0 (k + 1) 4 Option.none], sI IntKind.i64 n]) ([frB cs]) spusSc = spusTree h k cs cl op base res dead n := by kernel_rfl

noncomputable def sdeaOrc (h : Int) (k : Nat) (cs : List PV) (cl : List PV) (op base res : Int) (dead : Bool) (n : Int) : Orc := orcS (spC h k cs cl op base res dead n) noLed [] [] [(117, 5, 7), (151, 2, 5), (151, 2, 11)] (spS h k cs cl op base res dead n)
def sdeaSc : Sc := .fin
noncomputable def sdeaTree (h : Int) (k : Nat) (cs : List PV) (cl : List PV) (_op base _res : Int) (_dead : Bool) (_n : Int) : Tree :=
 (.call ⟨142, [.agg [sI .i64 h, .ms 0 0 (k + 1) 4 none]], [.ob (ObK.gr 135 true) (List.map keepP (List.map keepP (List.map AV.p cs)))], sI .i64 0, [.ob (ObK.gr 135 true) (List.map keepP (List.map keepP (List.map AV.p cs)))]⟩
 (.call ⟨143, [.ms 0 0 (k + 1) 4 none], [.ob (ObK.gr 135 true) (List.map keepP (List.map keepP (List.map keepP (List.map keepP (List.map AV.p cs)))))], .ms 1 0 (k + 1) 4 none, [.ob (ObK.gr 135 true) (List.map keepP (List.map keepP (List.map keepP (List.map keepP (List.map AV.p cs))))), .ob (ObK.gr 135 true) (List.map AV.p cl)]⟩
 (.need (sI .i64 (IntKind.i64.wrap ((↑(k + 1) : Int) - 1)) = sI IntKind.i64 (↑k : Int))
 (.must (inB (↑k : Int) (k + 1) && true && true)
 (.must ((0 + (↑k : Int).toNat * 4 + 1 + 1).ble (List.map keepP (List.map keepP (List.map AV.p cl))).length && (normA (Tryz.prog.underlying 3) ((List.map keepP (List.map keepP (List.map AV.p cl))).getD (0 + (↑k : Int).toNat * 4 + 1) .junk)).snd && true)
 (.need (((normA (Tryz.prog.underlying 3) ((List.map keepP (List.map keepP (List.map AV.p cl))).getD (0 + (↑k : Int).toNat * 4 + 1) AV.junk)).fst, (0 + (↑k : Int).toNat * 4 + 1 + 1).ble (List.map keepP (List.map keepP (List.map AV.p cl))).length && (normA (Tryz.prog.underlying 3) ((List.map keepP (List.map keepP (List.map AV.p cl))).getD (0 + (↑k : Int).toNat * 4 + 1) AV.junk)).snd).fst = sI IntKind.i64 base)
 (.must ((0 + (↑k : Int).toNat * 4 + 3 + 1).ble (List.map keepP (List.map keepP (List.map AV.p cl))).length && true && true && true)
 (.out (.ret (.tup [.agg [sI .i64 base, .ms 1 0 (k + 1) 4 none], sI .i64 0]) [.ob (ObK.gr 135 true) (List.map keepP (List.map keepP (List.map keepP (List.map keepP (List.map keepP (List.map keepP (List.map keepP (List.map keepP (List.map AV.p cs))))))))), .ob (ObK.gr 135 true) (List.map keepP (List.map keepP (List.map keepP (List.map keepP (List.map keepP (setL (List.map keepP (List.map keepP (List.map AV.p cl))) (0 + (↑k : Int).toNat * 4 + 3) [sB true]))))))])))))))))
theorem sdea_tree (h : Int) (k : Nat) (cs : List PV) (cl : List PV) (op base res : Int) (dead : Bool) (n : Int) : growF Tryz.prog (spEF h k cs cl op base res dead n) (sdeaOrc h k cs cl op base res dead n) 1000000 133 ([AV.agg [sI IntKind.i64 h, AV.ms 0 0 (k + 1) 4 Option.none]]) ([frB cs]) sdeaSc = sdeaTree h k cs cl op base res dead n := by kernel_rfl

noncomputable def sturOrc (h : Int) (k : Nat) (cs : List PV) (cl : List PV) (op base res : Int) (dead : Bool) (n : Int) : Orc := orcS (stuC h k cs cl op base res dead n) noLed [] [(167, 0, 0)] [(117, 5, 7), (167, 0, 1)] (spS h k cs cl op base res dead n)
def sturSc : Sc := .fin
noncomputable def sturTree (h : Int) (k : Nat) (cs : List PV) (cl : List PV) (op _base _res : Int) (_dead : Bool) (n : Int) : Tree :=
 (.call ⟨142, [.agg [sI .i64 h, .ms 0 0 (k + 1) 4 none]], [.ob (ObK.gr 135 true) (List.map keepP (List.map AV.p cs))], sI .i64 0, [.ob (ObK.gr 135 true) (List.map keepP (List.map AV.p cs))]⟩
 (.call ⟨143, [.ms 0 0 (k + 1) 4 none], [.ob (ObK.gr 135 true) (List.map keepP (List.map keepP (List.map keepP (List.map AV.p cs))))], .ms 1 0 (k + 1) 4 none, [.ob (ObK.gr 135 true) (List.map keepP (List.map keepP (List.map keepP (List.map AV.p cs)))), .ob (ObK.gr 135 true) (List.map AV.p cl)]⟩
 (.need (sI .i64 (IntKind.i64.wrap ((↑(k + 1) : Int) - 1)) = sI IntKind.i64 (↑k : Int))
 (.must (inB (↑k : Int) (k + 1) && true && true)
 (.test (decide ((↑(k + 1) : Int) ≥ 1000))
 (.must true
 (.out (.ret (.tup [.agg [sI .i64 0, .os none 0 0 []], sI .i64 8]) [.ob (ObK.gr 135 true) (List.map keepP (List.map keepP (List.map keepP (List.map keepP (List.map keepP (List.map AV.p cs)))))), .pc [sP op], .pc [sP n]])))
 (.must (((k + 1 + 1) * 32).ble lim && (k + 1 + 1).ble lim && (((k + 1) * 4).ble (List.map keepP (List.map keepP (List.map AV.p cl))).length && true) && true && true && true)
 (.must true
 (.out (.ret (.tup [.agg [sI .i64 h, .ms 3 0 (k + 1 + 1) 4 none], sI .i64 0]) [.ob (ObK.gr 135 true) (List.map keepP (List.map keepP (List.map keepP (List.map keepP (List.map keepP (List.map AV.p cs)))))), .pc [sP op], .pc [sP n], .ob (ObK.gr 135 true) (List.map keepP (List.map keepP (List.map keepP (List.take ((k + 1) * 4) (List.map keepP (List.map keepP (List.map AV.p cl))) ++ [sI .i64 op, sI .i64 h, sI .i64 n, sB false]))))])))))))))
theorem stur_tree (h : Int) (k : Nat) (cs : List PV) (cl : List PV) (op base res : Int) (dead : Bool) (n : Int) : growF Tryz.prog (spEF h k cs cl op base res dead n) (sturOrc h k cs cl op base res dead n) 1000000 117 ([AV.agg [sI IntKind.i64 h, AV.ms 0 0 (k + 1) 4 Option.none], sB true, AV.fn (Fn.func 167) [] [AV.mp 1 0, AV.mp 2 0]]) ([frB cs, Blk.pc [PV.sc (Value.int IntKind.i64 op)], Blk.pc [PV.sc (Value.int IntKind.i64 n)]]) sturSc = sturTree h k cs cl op base res dead n := by kernel_rfl

noncomputable def sentOrc (h : Int) (k : Nat) (cs : List PV) (cl : List PV) (op base res : Int) (dead : Bool) (n : Int) : Orc := orcL (spC h k cs cl op base res dead n) (ledEn h k cs cl op base res dead n) [] [] [(153, 0, 0)]
def sentSc : Sc := .fin
noncomputable def sentTree (h : Int) (k : Nat) (cs : List PV) (cl : List PV) (op _base _res : Int) (_dead : Bool) (n : Int) : Tree :=
 (.call ⟨158, [sI .i64 op], [], sB true, []⟩
 (.call ⟨117, [.agg [sI .i64 h, .ms 0 0 (k + 1) 4 none], sB true, .fn (Fn.func 167) [] [.mp 1 0, .mp 2 0]], [.ob (ObK.gr 135 true) (List.map keepP (List.map AV.p cs)), .pc [sP op], .pc [sP n]], .tup [.agg [sI .i64 h, .ms 3 0 (k + 2) 4 none], sI .i64 0], [.ob (ObK.gr 135 true) (List.map keepP (List.map AV.p cs)), .pc [sP op], .pc [sP n], .ob (ObK.gr 135 true) (List.map AV.p cl)]⟩
 (.must (eqAV (.p (.sc (.bool (decide (n ≥ 0))))) (sB true) && (eqAV (.p (.sc (.bool (decide (n ≤ 1))))) (sB true) && true) && true)
 (.must true
 (.out (.ret (.tup [.agg [sI .i64 h, .ms 1 0 (k + 2) 4 none], sI .i64 0]) [.ob (ObK.gr 135 true) (List.map keepP (List.map keepP (List.map keepP (List.map AV.p cs)))), .ob (ObK.gr 135 true) (List.map keepP (List.map keepP (List.map AV.p cl)))]))))))
theorem sent_tree (h : Int) (k : Nat) (cs : List PV) (cl : List PV) (op base res : Int) (dead : Bool) (n : Int) : growF Tryz.prog (seE h k cs cl op base res dead n) (sentOrc h k cs cl op base res dead n) 1000000 153 ([AV.agg [sI IntKind.i64 h, AV.ms 0 0 (k + 1) 4 Option.none], sI IntKind.i64 op, sI IntKind.i64 n]) ([frB cs]) sentSc = sentTree h k cs cl op base res dead n := by kernel_rfl

noncomputable def sleFOrc (h : Int) (k : Nat) (cs : List PV) (cl : List PV) (op base res : Int) (dead : Bool) (n : Int) : Orc := orcS (spC h k cs cl op base res dead n) noLed [] [(118, 0, 1)] [(117, 5, 7), (118, 0, 0), (119, 0, 0), (119, 0, 1), (118, 0, 2)] (spS h k cs cl op base res dead n)
def sleFSc : Sc := .fin
noncomputable def sleFTree (h : Int) (k : Nat) (cs : List PV) (cl : List PV) (_op base res : Int) (_dead : Bool) (_n : Int) : Tree :=
 (.call ⟨142, [.agg [sI .i64 h, .ms 0 0 (k + 1) 4 none]], [.ob (ObK.gr 135 true) (List.map keepP (List.map keepP (List.map AV.p cs)))], sI .i64 0, [.ob (ObK.gr 135 true) (List.map keepP (List.map keepP (List.map AV.p cs)))]⟩
 (.call ⟨143, [.ms 0 0 (k + 1) 4 none], [.ob (ObK.gr 135 true) (List.map keepP (List.map keepP (List.map keepP (List.map keepP (List.map AV.p cs)))))], .ms 1 0 (k + 1) 4 none, [.ob (ObK.gr 135 true) (List.map keepP (List.map keepP (List.map keepP (List.map keepP (List.map AV.p cs))))), .ob (ObK.gr 135 true) (List.map AV.p cl)]⟩
 (.need (sI .i64 (IntKind.i64.wrap ((↑(k + 1) : Int) - 1)) = sI IntKind.i64 (↑k : Int))
 (.must (inB (↑k : Int) (k + 1) && true && true)
 (.must ((0 + (↑k : Int).toNat * 4 + 2 + 1).ble (List.map keepP (List.map keepP (List.map AV.p cl))).length && (normA (Tryz.prog.underlying 3) ((List.map keepP (List.map keepP (List.map AV.p cl))).getD (0 + (↑k : Int).toNat * 4 + 2) .junk)).snd && true && eqAV (normA (Tryz.prog.underlying 3) ((List.map keepP (List.map keepP (List.map AV.p cl))).getD (0 + (↑k : Int).toNat * 4 + 2) .junk)).fst (sI .i64 res) && ((0 + (↑k : Int).toNat * 4 + 1 + 1).ble (List.map keepP (List.map keepP (List.map AV.p cl))).length && (normA (Tryz.prog.underlying 3) ((List.map keepP (List.map keepP (List.map AV.p cl))).getD (0 + (↑k : Int).toNat * 4 + 1) .junk)).snd && true && eqAV (normA (Tryz.prog.underlying 3) ((List.map keepP (List.map keepP (List.map AV.p cl))).getD (0 + (↑k : Int).toNat * 4 + 1) .junk)).fst (sI .i64 base) && true) && true)
 (.must ((0 + (↑k : Int).toNat * 4 + 1 + 1).ble (List.map keepP (List.map keepP (List.map keepP (List.map AV.p cl)))).length && (normA (Tryz.prog.underlying 3) ((List.map keepP (List.map keepP (List.map keepP (List.map AV.p cl)))).getD (0 + (↑k : Int).toNat * 4 + 1) .junk)).snd && true && eqAV (normA (Tryz.prog.underlying 3) ((List.map keepP (List.map keepP (List.map keepP (List.map AV.p cl)))).getD (0 + (↑k : Int).toNat * 4 + 1) .junk)).fst (sI .i64 base) && (eqAV (.p (.sc (.bool (decide (res > IntKind.i64.wrap (h - base)))))) (sB false) && true) && true)
 (.must ((0 + (↑k : Int).toNat * 4 + 1 + 1).ble (List.map keepP (List.map keepP (List.map keepP (List.map AV.p cl)))).length && (normA (Tryz.prog.underlying 3) ((List.map keepP (List.map keepP (List.map keepP (List.map AV.p cl)))).getD (0 + (↑k : Int).toNat * 4 + 1) .junk)).snd && true && eqAV (normA (Tryz.prog.underlying 3) ((List.map keepP (List.map keepP (List.map keepP (List.map AV.p cl)))).getD (0 + (↑k : Int).toNat * 4 + 1) .junk)).fst (sI .i64 base) && true && true)
 (.must true
 (.test (decide (IntKind.i64.wrap (h - bif true then Min.min res (IntKind.i64.wrap (h - base)) else Max.max res (IntKind.i64.wrap (h - base))) > base))
 (.must true
 (.out (.ret (.tup [.agg [sI .i64 0, .os none 0 0 []], sI .i64 201]) [.ob (ObK.gr 135 true) (List.map keepP (List.map keepP (List.map keepP (List.map keepP (List.map keepP (List.map keepP (List.map keepP (List.map keepP (List.map AV.p cs)))))))))])))
 (.must (eqAV (sI .i64 (IntKind.i64.wrap ((↑(k + 1) : Int) - 1))) (sI .i64 (↑k : Int)) && ((↑k : Int).toNat.ble (k + 1) && true && true && true && true) && true)
 (.must true
 (.out (.ret (.tup [.agg [sI .i64 (IntKind.i64.wrap (IntKind.i64.wrap (h - bif true then Min.min res (IntKind.i64.wrap (h - base)) else Max.max res (IntKind.i64.wrap (h - base))) + res)), .ms 1 0 ((↑k : Int).toNat - 0) 4 none], sI .i64 0]) [.ob (ObK.gr 135 true) (List.map keepP (List.map keepP (List.map keepP (List.map keepP (List.map keepP (List.map keepP (List.map keepP (List.map keepP (List.map AV.p cs))))))))), .ob (ObK.gr 135 true) (List.map keepP (List.map keepP (List.map keepP (List.map keepP (List.map keepP (List.map keepP (List.map keepP (List.map keepP (List.map keepP (List.map keepP (List.map AV.p cl)))))))))))])))))))))))))
theorem sleF_tree (h : Int) (k : Nat) (cs : List PV) (cl : List PV) (op base res : Int) (dead : Bool) (n : Int) : growF Tryz.prog (spEF h k cs cl op base res dead n) (sleFOrc h k cs cl op base res dead n) 1000000 86 ([AV.agg [sI IntKind.i64 h, AV.ms 0 0 (k + 1) 4 Option.none]]) ([frB cs]) sleFSc = sleFTree h k cs cl op base res dead n := by kernel_rfl

noncomputable def sleTOrc (h : Int) (k : Nat) (cs : List PV) (cl : List PV) (op base res : Int) (dead : Bool) (n : Int) : Orc := orcS (spC h k cs cl op base res dead n) noLed [] [(119, 0, 0), (118, 0, 1)] [(117, 5, 7), (118, 0, 0), (119, 0, 0), (119, 0, 1), (118, 0, 2)] (spS h k cs cl op base res dead n)
def sleTSc : Sc := .fin
noncomputable def sleTTree (h : Int) (k : Nat) (cs : List PV) (cl : List PV) (_op base res : Int) (dead : Bool) (_n : Int) : Tree :=
 (.call ⟨142, [.agg [sI .i64 h, .ms 0 0 (k + 1) 4 none]], [.ob (ObK.gr 135 true) (List.map keepP (List.map keepP (List.map AV.p cs)))], sI .i64 0, [.ob (ObK.gr 135 true) (List.map keepP (List.map keepP (List.map AV.p cs)))]⟩
 (.call ⟨143, [.ms 0 0 (k + 1) 4 none], [.ob (ObK.gr 135 true) (List.map keepP (List.map keepP (List.map keepP (List.map keepP (List.map AV.p cs)))))], .ms 1 0 (k + 1) 4 none, [.ob (ObK.gr 135 true) (List.map keepP (List.map keepP (List.map keepP (List.map keepP (List.map AV.p cs))))), .ob (ObK.gr 135 true) (List.map AV.p cl)]⟩
 (.need (sI .i64 (IntKind.i64.wrap ((↑(k + 1) : Int) - 1)) = sI IntKind.i64 (↑k : Int))
 (.must (inB (↑k : Int) (k + 1) && true && true)
 (.must ((0 + (↑k : Int).toNat * 4 + 2 + 1).ble (List.map keepP (List.map keepP (List.map AV.p cl))).length && (normA (Tryz.prog.underlying 3) ((List.map keepP (List.map keepP (List.map AV.p cl))).getD (0 + (↑k : Int).toNat * 4 + 2) .junk)).snd && true && eqAV (normA (Tryz.prog.underlying 3) ((List.map keepP (List.map keepP (List.map AV.p cl))).getD (0 + (↑k : Int).toNat * 4 + 2) .junk)).fst (sI .i64 res) && ((0 + (↑k : Int).toNat * 4 + 1 + 1).ble (List.map keepP (List.map keepP (List.map AV.p cl))).length && (normA (Tryz.prog.underlying 3) ((List.map keepP (List.map keepP (List.map AV.p cl))).getD (0 + (↑k : Int).toNat * 4 + 1) .junk)).snd && true && eqAV (normA (Tryz.prog.underlying 3) ((List.map keepP (List.map keepP (List.map AV.p cl))).getD (0 + (↑k : Int).toNat * 4 + 1) .junk)).fst (sI .i64 base) && true) && true)
 (.must ((0 + (↑k : Int).toNat * 4 + 1 + 1).ble (List.map keepP (List.map keepP (List.map keepP (List.map AV.p cl)))).length && (normA (Tryz.prog.underlying 3) ((List.map keepP (List.map keepP (List.map keepP (List.map AV.p cl)))).getD (0 + (↑k : Int).toNat * 4 + 1) .junk)).snd && true && eqAV (normA (Tryz.prog.underlying 3) ((List.map keepP (List.map keepP (List.map keepP (List.map AV.p cl)))).getD (0 + (↑k : Int).toNat * 4 + 1) .junk)).fst (sI .i64 base) && (eqAV (.p (.sc (.bool (decide (res > IntKind.i64.wrap (h - base)))))) (sB true) && ((0 + (↑k : Int).toNat * 4 + 3 + 1).ble (List.map keepP (List.map keepP (List.map keepP (List.map AV.p cl)))).length && (normA (Tryz.prog.underlying 4) ((List.map keepP (List.map keepP (List.map keepP (List.map AV.p cl)))).getD (0 + (↑k : Int).toNat * 4 + 3) .junk)).snd && true && eqAV (normA (Tryz.prog.underlying 4) ((List.map keepP (List.map keepP (List.map keepP (List.map AV.p cl)))).getD (0 + (↑k : Int).toNat * 4 + 3) .junk)).fst (.p (.sc (.bool dead))) && true)) && true)
 (.test (!dead)
 (.must true
 (.out (.ret (.tup [.agg [sI .i64 0, .os none 0 0 []], sI .i64 200]) [.ob (ObK.gr 135 true) (List.map keepP (List.map keepP (List.map keepP (List.map keepP (List.map keepP (List.map keepP (List.map keepP (List.map keepP (List.map AV.p cs)))))))))])))
 (.must ((0 + (↑k : Int).toNat * 4 + 1 + 1).ble (List.map keepP (List.map keepP (List.map keepP (List.map AV.p cl)))).length && (normA (Tryz.prog.underlying 3) ((List.map keepP (List.map keepP (List.map keepP (List.map AV.p cl)))).getD (0 + (↑k : Int).toNat * 4 + 1) .junk)).snd && true && eqAV (normA (Tryz.prog.underlying 3) ((List.map keepP (List.map keepP (List.map keepP (List.map AV.p cl)))).getD (0 + (↑k : Int).toNat * 4 + 1) .junk)).fst (sI .i64 base) && true && true)
 (.must true
 (.test (decide (IntKind.i64.wrap (h - bif true then Min.min res (IntKind.i64.wrap (h - base)) else Max.max res (IntKind.i64.wrap (h - base))) > base))
 (.must true
 (.out (.ret (.tup [.agg [sI .i64 0, .os none 0 0 []], sI .i64 201]) [.ob (ObK.gr 135 true) (List.map keepP (List.map keepP (List.map keepP (List.map keepP (List.map keepP (List.map keepP (List.map keepP (List.map keepP (List.map AV.p cs)))))))))])))
 (.must (eqAV (sI .i64 (IntKind.i64.wrap ((↑(k + 1) : Int) - 1))) (sI .i64 (↑k : Int)) && ((↑k : Int).toNat.ble (k + 1) && true && true && true && true) && true)
 (.must true
 (.out (.ret (.tup [.agg [sI .i64 (IntKind.i64.wrap (IntKind.i64.wrap (h - bif true then Min.min res (IntKind.i64.wrap (h - base)) else Max.max res (IntKind.i64.wrap (h - base))) + res)), .ms 1 0 ((↑k : Int).toNat - 0) 4 none], sI .i64 0]) [.ob (ObK.gr 135 true) (List.map keepP (List.map keepP (List.map keepP (List.map keepP (List.map keepP (List.map keepP (List.map keepP (List.map keepP (List.map AV.p cs))))))))), .ob (ObK.gr 135 true) (List.map keepP (List.map keepP (List.map keepP (List.map keepP (List.map keepP (List.map keepP (List.map keepP (List.map keepP (List.map keepP (List.map keepP (List.map AV.p cl)))))))))))]))))))))))))))
theorem sleT_tree (h : Int) (k : Nat) (cs : List PV) (cl : List PV) (op base res : Int) (dead : Bool) (n : Int) : growF Tryz.prog (spET h k cs cl op base res dead n) (sleTOrc h k cs cl op base res dead n) 1000000 86 ([AV.agg [sI IntKind.i64 h, AV.ms 0 0 (k + 1) 4 Option.none]]) ([frB cs]) sleTSc = sleTTree h k cs cl op base res dead n := by kernel_rfl

theorem Does.toW {rows : List (Nat × Nat × AV)} {f : FuncId} {args : List AV} {m m' : Mem} {v : AV} (h : Does Tryz.prog env f args m v m') : Does Tryz.prog (envW rows) f args m v m' := h.env fun _ _ q => q

theorem und3 : Tryz.prog.underlying 3 = some (.int .i64) := by kernel_rfl
theorem und4 : Tryz.prog.underlying 4 = some .bool := by kernel_rfl
theorem eqAV_int (k : IntKind) (a b : Int) : eqAV (.p (.sc (.int k a))) (.p (.sc (.int k b))) = decide (a = b) := by
  simp only [eqAV, eqPV, eqV, eqKind]
  cases k <;> rfl
theorem eqAV_bool (a b : Bool) : eqAV (.p (.sc (.bool a))) (.p (.sc (.bool b))) = eqBool a b := by
  simp only [eqAV, eqPV, eqV]
theorem eqBool_iff (a b : Bool) : eqBool a b = true ↔ a = b := by cases a <;> cases b <;> simp [eqBool]

theorem set_map (l : List PV) (i : Nat) (v : PV) : setL (List.map AV.p l) i [AV.p v] = List.map AV.p (l.set i v) := by
  simp only [setL, List.map_set]

theorem set_top : ∀ (o : List Fr) (t : Fr), (encFs (o ++ [t])).set (o.length * 4 + 3) (.sc (.bool true)) = encFs (o ++ [⟨t.op, t.base, t.res, true⟩])
  | [], t => rfl
  | f :: o, t => by
    simp only [List.cons_append, encFs, List.nil_append, List.length_cons]
    rw [show (o.length + 1) * 4 + 3 = (o.length * 4 + 3) + 1 + 1 + 1 + 1 by omega]
    simp only [List.set_cons_succ, set_top o t]

section
variable {h : Int} {o : List Fr} {t : Fr} (ex : List PV) (hok : okStand h (o ++ [t]))

theorem okFs_mem {h : Int} : ∀ {l : List Fr} {b : Int}, okFs h b l → 0 ≤ b → ∀ f ∈ l, 0 ≤ f.base ∧ f.base ≤ h ∧ 0 ≤ f.res ∧ f.res ≤ 1
  | [], _, _, _, _, hf => by cases hf
  | x :: r, b, hk, hb, f, hf => by
    obtain ⟨_, h2, h3, h4, h5, h6⟩ := hk
    cases hf with
    | head => exact ⟨by omega, h3, h4, h5⟩
    | tail _ hf => exact okFs_mem h6 (by omega) f hf

theorem okStand_mem {h : Int} {l : List Fr} (hk : okStand h l) : ∀ f ∈ l, 0 ≤ f.base ∧ f.base ≤ h ∧ 0 ≤ f.res ∧ f.res ≤ 1 := by
  cases l with
  | nil => exact hk.elim
  | cons x r =>
    obtain ⟨_, h2, h3, h4, h5, h6, _⟩ := hk
    intro f hf
    cases hf with
    | head => exact ⟨by omega, by omega, h3, h4⟩
    | tail _ hf => exact okFs_mem h5 (by omega) f hf

theorem okStand_num {h : Int} {l : List Fr} (hk : okStand h l) : 0 ≤ h ∧ h ≤ 1073741824 ∧ l.length ≤ 1000 := by
  cases l with
  | nil => exact hk.elim
  | cons x r => exact ⟨hk.2.2.2.2.2.1, hk.2.2.2.2.2.2.1, hk.2.2.2.2.2.2.2⟩

include hok in
theorem stand_facts : (o.length + 1 = (o ++ [t]).length) ∧ o.length ≤ 999 ∧ 0 ≤ h ∧ h ≤ 1073741824 ∧ 0 ≤ t.base ∧ t.base ≤ h ∧ 0 ≤ t.res ∧ t.res ≤ 1 ∧ (encFs (o ++ [t]) ++ ex).take ((o.length + 1) * 4) = encFs (o ++ [t]) ∧
    (o.length + 1) * 4 ≤ (encFs (o ++ [t]) ++ ex).length ∧ (encFs (o ++ [t])).length = (o.length + 1) * 4 := by
  have h1 : o.length + 1 = (o ++ [t]).length := by simp
  have h2 : (encFs (o ++ [t])).length = (o.length + 1) * 4 := by rw [encFs_length, h1]
  obtain ⟨n1, n2, n3⟩ := okStand_num hok
  obtain ⟨m1, m2, m3, m4⟩ := okStand_mem hok t (by simp)
  exact ⟨h1, by omega, n1, n2, m1, m2, m3, m4, by rw [List.take_append_of_le_length (by omega), List.take_of_length_le (by omega)], by rw [List.length_append]; omega, h2⟩

include hok in
theorem chk' : Does Tryz.prog env 142 [.agg [sI .i64 h, .ms 0 0 (o.length + 1) 4 none]] [frB (encFs (o ++ [t]) ++ ex)] (sI .i64 0) [frB (encFs (o ++ [t]) ++ ex)] := by
  have := chk_does h (o ++ [t]) ex hok
  rw [List.length_append] at this
  exact this

include hok in
theorem cln' : Does Tryz.prog env 143 [.ms 0 0 (o.length + 1) 4 none] [frB (encFs (o ++ [t]) ++ ex)] (.ms 1 0 (o.length + 1) 4 none) [frB (encFs (o ++ [t]) ++ ex), frB (encFs (o ++ [t]))] := by
  obtain ⟨_, f2, _, _, _, _, _, _, f9, f10, _⟩ := stand_facts ex hok
  have := clone_does o.length (by omega) _ f10
  rw [f9] at this
  exact this

theorem top_cells (o : List Fr) (t : Fr) : (List.map AV.p (encFs (o ++ [t]))).getD (o.length * 4) .junk = sI .i64 t.op ∧ (List.map AV.p (encFs (o ++ [t]))).getD (o.length * 4 + 1) .junk = sI .i64 t.base ∧
    (List.map AV.p (encFs (o ++ [t]))).getD (o.length * 4 + 2) .junk = sI .i64 t.res ∧ (List.map AV.p (encFs (o ++ [t]))).getD (o.length * 4 + 3) .junk = sB t.dead := by
  have := fr_cells (l := o ++ [t]) (k := o.length) (f := t) (by simp) []
  simpa using this

include hok in
theorem pop_ok {n : Int} (hn : 0 ≤ n) (hc : n ≤ h - t.base) :
    Does Tryz.prog env 137 [.agg [sI .i64 h, .ms 0 0 (o.length + 1) 4 none], sI .i64 n] [frB (encFs (o ++ [t]) ++ ex)] (.tup [.agg [sI .i64 (h - n), .ms 1 0 (o.length + 1) 4 none], sI .i64 0]) [frB (encFs (o ++ [t]) ++ ex), frB (encFs (o ++ [t]))] := by
  obtain ⟨f1, f2, f3, f4, f5, f6, f7, f8, f9, f10, f11⟩ := stand_facts ex hok
  obtain ⟨c0, c1, c2, c3⟩ := top_cells o t
  have hlim : lim = 70368744177664 := rfl
  refine Does.fromW (rows := spT o.length t.base t.res t.dead false) ?_
  refine does_of_tree names (spoF_tree h o.length (encFs (o ++ [t]) ++ ex) (encFs (o ++ [t])) t.op t.base t.res t.dead n) ?_
  have w1 : IntKind.i64.wrap (((o.length + 1 : Nat) : Int) - 1) = (o.length : Int) := by rw [i64In (by omega) (by omega)]; omega
  have w2 : IntKind.i64.wrap (h - t.base) = h - t.base := i64In (by omega) (by omega)
  have w3 : min n (h - t.base) = n := by omega
  have w4 : IntKind.i64.wrap (h - n) = h - n := by exact i64In (by omega) (by omega)
  have g1 : decide (n ≥ 0) = true := by simp; omega
  have g2 : decide (n > h - t.base) = false := by simp; omega
  simp only [spoFTree, Tree.ok, w3, w4, g1, g2, w1, w2, keep_map, set_map, Int.toNat_natCast, Nat.zero_add, Nat.sub_zero, c0, c1, c2, c3, und3, und4, normA, normP, isInt, isBool, pvInt, pvBool, ik, cond_true, eqAV_int, eqAV_bool, eqBool, List.length_map, f11, ← List.map_take, ← List.map_append, List.map_cons, List.map_nil,
    Bool.not_true, Bool.not_false, Bool.false_eq_true, Bool.true_eq_false, false_implies, true_implies, and_true, true_and, Bool.and_true, Bool.true_and, Nat.ble_eq, Bool.and_eq_true, decide_eq_true_eq, inB]
  refine ⟨Does.toW (chk' ex hok), Does.toW (cln' ex hok), ?_⟩
  repeat' apply And.intro
  all_goals omega

include hok in
theorem pop_dead {n : Int} (hn : 0 ≤ n) (hc : h - t.base < n) (hd : t.dead = true) :
    Does Tryz.prog env 137 [.agg [sI .i64 h, .ms 0 0 (o.length + 1) 4 none], sI .i64 n] [frB (encFs (o ++ [t]) ++ ex)] (.tup [.agg [sI .i64 t.base, .ms 1 0 (o.length + 1) 4 none], sI .i64 0]) [frB (encFs (o ++ [t]) ++ ex), frB (encFs (o ++ [t]))] := by
  obtain ⟨f1, f2, f3, f4, f5, f6, f7, f8, f9, f10, f11⟩ := stand_facts ex hok
  obtain ⟨c0, c1, c2, c3⟩ := top_cells o t
  have hlim : lim = 70368744177664 := rfl
  refine Does.fromW (rows := spT o.length t.base t.res t.dead true) ?_
  refine does_of_tree names (spoT_tree h o.length (encFs (o ++ [t]) ++ ex) (encFs (o ++ [t])) t.op t.base t.res t.dead n) ?_
  have w1 : IntKind.i64.wrap (((o.length + 1 : Nat) : Int) - 1) = (o.length : Int) := by rw [i64In (by omega) (by omega)]; omega
  have w2 : IntKind.i64.wrap (h - t.base) = h - t.base := i64In (by omega) (by omega)
  have w3 : min n (h - t.base) = h - t.base := by omega
  have w4 : IntKind.i64.wrap (h - (h - t.base)) = t.base := by rw [i64In (by omega) (by omega)]; omega
  have g1 : decide (n ≥ 0) = true := by simp; omega
  have g2 : decide (n > h - t.base) = true := by simp; omega
  simp only [spoTTree, Tree.ok, w3, w4, g1, g2, hd, w1, w2, keep_map, set_map, Int.toNat_natCast, Nat.zero_add, Nat.sub_zero, c0, c1, c2, c3, und3, und4, normA, normP, isInt, isBool, pvInt, pvBool, ik, cond_true, eqAV_int, eqAV_bool, eqBool, List.length_map, f11, ← List.map_take, ← List.map_append, List.map_cons, List.map_nil,
    Bool.not_true, Bool.not_false, Bool.false_eq_true, Bool.true_eq_false, false_implies, true_implies, and_true, true_and, Bool.and_true, Bool.true_and, Nat.ble_eq, Bool.and_eq_true, decide_eq_true_eq, inB]
  refine ⟨Does.toW (chk' ex hok), Does.toW (cln' ex hok), ?_⟩
  repeat' apply And.intro
  all_goals omega

include hok in
theorem pop_bad {n : Int} (hn : 0 ≤ n) (hc : h - t.base < n) (hd : t.dead = false) :
    Does Tryz.prog env 137 [.agg [sI .i64 h, .ms 0 0 (o.length + 1) 4 none], sI .i64 n] [frB (encFs (o ++ [t]) ++ ex)] (.tup [.agg [sI .i64 0, .os none 0 0 []], sI .i64 200]) [frB (encFs (o ++ [t]) ++ ex)] := by
  obtain ⟨f1, f2, f3, f4, f5, f6, f7, f8, f9, f10, f11⟩ := stand_facts ex hok
  obtain ⟨c0, c1, c2, c3⟩ := top_cells o t
  have hlim : lim = 70368744177664 := rfl
  refine Does.fromW (rows := spT o.length t.base t.res t.dead true) ?_
  refine does_of_tree names (spoT_tree h o.length (encFs (o ++ [t]) ++ ex) (encFs (o ++ [t])) t.op t.base t.res t.dead n) ?_
  have w1 : IntKind.i64.wrap (((o.length + 1 : Nat) : Int) - 1) = (o.length : Int) := by rw [i64In (by omega) (by omega)]; omega
  have w2 : IntKind.i64.wrap (h - t.base) = h - t.base := i64In (by omega) (by omega)
  have g1 : decide (n ≥ 0) = true := by simp; omega
  have g2 : decide (n > h - t.base) = true := by simp; omega
  simp only [spoTTree, Tree.ok, g1, g2, hd, w1, w2, keep_map, set_map, Int.toNat_natCast, Nat.zero_add, Nat.sub_zero, c0, c1, c2, c3, und3, und4, normA, normP, isInt, isBool, pvInt, pvBool, ik, cond_true, eqAV_int, eqAV_bool, eqBool, List.length_map, f11, ← List.map_take, ← List.map_append, List.map_cons, List.map_nil,
    Bool.not_true, Bool.not_false, Bool.false_eq_true, Bool.true_eq_false, false_implies, true_implies, and_true, true_and, Bool.and_true, Bool.true_and, Nat.ble_eq, Bool.and_eq_true, decide_eq_true_eq, inB]
  refine ⟨Does.toW (chk' ex hok), Does.toW (cln' ex hok), ?_⟩
  repeat' apply And.intro
  all_goals omega

include hok in
theorem push_ok {n : Int} (hn : 0 ≤ n) (hc : h + n ≤ 1073741824) :
    Does Tryz.prog env 139 [.agg [sI .i64 h, .ms 0 0 (o.length + 1) 4 none], sI .i64 n] [frB (encFs (o ++ [t]) ++ ex)] (.tup [.agg [sI .i64 (h + n), .ms 1 0 (o.length + 1) 4 none], sI .i64 0]) [frB (encFs (o ++ [t]) ++ ex), frB (encFs (o ++ [t]))] := by
  obtain ⟨f1, f2, f3, f4, f5, f6, f7, f8, f9, f10, f11⟩ := stand_facts ex hok
  obtain ⟨c0, c1, c2, c3⟩ := top_cells o t
  have hlim : lim = 70368744177664 := rfl
  refine Does.fromW (rows := spT o.length t.base t.res t.dead false) ?_
  refine does_of_tree names (spus_tree h o.length (encFs (o ++ [t]) ++ ex) (encFs (o ++ [t])) t.op t.base t.res t.dead n) ?_
  have w1 : IntKind.i64.wrap (((o.length + 1 : Nat) : Int) - 1) = (o.length : Int) := by rw [i64In (by omega) (by omega)]; omega
  have w2 : IntKind.i64.wrap (h - t.base) = h - t.base := i64In (by omega) (by omega)
  have w4 : IntKind.i64.wrap (h + n) = h + n := by exact i64In (by omega) (by omega)
  have w5 : IntKind.i64.wrap (1073741824 - h) = 1073741824 - h := by exact i64In (by omega) (by omega)
  have g1 : decide (n ≥ 0) = true := by simp; omega
  have g2 : decide (n > 1073741824 - h) = false := by simp; omega
  simp only [spusTree, Tree.ok, w4, w5, g1, g2, w1, w2, keep_map, set_map, Int.toNat_natCast, Nat.zero_add, Nat.sub_zero, c0, c1, c2, c3, und3, und4, normA, normP, isInt, isBool, pvInt, pvBool, ik, cond_true, eqAV_int, eqAV_bool, eqBool, List.length_map, f11, ← List.map_take, ← List.map_append, List.map_cons, List.map_nil,
    Bool.not_true, Bool.not_false, Bool.false_eq_true, Bool.true_eq_false, false_implies, true_implies, and_true, true_and, Bool.and_true, Bool.true_and, Nat.ble_eq, Bool.and_eq_true, decide_eq_true_eq, inB]
  refine ⟨Does.toW (chk' ex hok), Does.toW (cln' ex hok), ?_⟩
  repeat' apply And.intro
  all_goals omega

include hok in
theorem dead_ok  :
    Does Tryz.prog env 133 [.agg [sI .i64 h, .ms 0 0 (o.length + 1) 4 none]] [frB (encFs (o ++ [t]) ++ ex)] (.tup [.agg [sI .i64 t.base, .ms 1 0 (o.length + 1) 4 none], sI .i64 0]) [frB (encFs (o ++ [t]) ++ ex), frB (encFs (o ++ [⟨t.op, t.base, t.res, true⟩]))] := by
  obtain ⟨f1, f2, f3, f4, f5, f6, f7, f8, f9, f10, f11⟩ := stand_facts ex hok
  obtain ⟨c0, c1, c2, c3⟩ := top_cells o t
  have hlim : lim = 70368744177664 := rfl
  refine Does.fromW (rows := spT o.length t.base t.res t.dead false) ?_
  refine does_of_tree names (sdea_tree h o.length (encFs (o ++ [t]) ++ ex) (encFs (o ++ [t])) t.op t.base t.res t.dead 0) ?_
  have w1 : IntKind.i64.wrap (((o.length + 1 : Nat) : Int) - 1) = (o.length : Int) := by rw [i64In (by omega) (by omega)]; omega
  have w2 : IntKind.i64.wrap (h - t.base) = h - t.base := i64In (by omega) (by omega)
  simp only [sdeaTree, Tree.ok, set_top o t, w1, w2, keep_map, set_map, Int.toNat_natCast, Nat.zero_add, Nat.sub_zero, c0, c1, c2, c3, und3, und4, normA, normP, isInt, isBool, pvInt, pvBool, ik, cond_true, eqAV_int, eqAV_bool, eqBool, List.length_map, f11, ← List.map_take, ← List.map_append, List.map_cons, List.map_nil,
    Bool.not_true, Bool.not_false, Bool.false_eq_true, Bool.true_eq_false, false_implies, true_implies, and_true, true_and, Bool.and_true, Bool.true_and, Nat.ble_eq, Bool.and_eq_true, decide_eq_true_eq, inB]
  refine ⟨Does.toW (chk' ex hok), Does.toW (cln' ex hok), ?_⟩
  repeat' apply And.intro
  all_goals omega

include hok in
theorem leave_ok (hc : t.res = h - t.base) :
    Does Tryz.prog env 86 [.agg [sI .i64 h, .ms 0 0 (o.length + 1) 4 none]] [frB (encFs (o ++ [t]) ++ ex)] (.tup [.agg [sI .i64 (t.base + t.res), .ms 1 0 o.length 4 none], sI .i64 0]) [frB (encFs (o ++ [t]) ++ ex), frB (encFs (o ++ [t]))] := by
  obtain ⟨f1, f2, f3, f4, f5, f6, f7, f8, f9, f10, f11⟩ := stand_facts ex hok
  obtain ⟨c0, c1, c2, c3⟩ := top_cells o t
  refine Does.fromW (rows := spT o.length t.base t.res t.dead false) ?_
  refine does_of_tree names (sleF_tree h o.length (encFs (o ++ [t]) ++ ex) (encFs (o ++ [t])) t.op t.base t.res t.dead 0) ?_
  have w1 : IntKind.i64.wrap (((o.length + 1 : Nat) : Int) - 1) = (o.length : Int) := by rw [i64In (by omega) (by omega)]; omega
  have w2 : IntKind.i64.wrap (h - t.base) = h - t.base := i64In (by omega) (by omega)
  have w3 : min t.res (h - t.base) = t.res := by omega
  have w4 : IntKind.i64.wrap (h - t.res) = t.base := by rw [i64In (by omega) (by omega)]; omega
  have w5 : IntKind.i64.wrap (t.base + t.res) = t.base + t.res := by exact i64In (by omega) (by omega)
  have g3 : decide (t.base > t.base) = false := by simp
  have g2 : decide (t.res > h - t.base) = false := by simp; omega
  simp only [sleFTree, Tree.ok, w3, w4, w5, g2, g3, w1, w2, keep_map, set_map, Int.toNat_natCast, Nat.zero_add, Nat.sub_zero, c0, c1, c2, c3, und3, und4, normA, normP, isInt, isBool, pvInt, pvBool, ik, cond_true, eqAV_int, eqAV_bool, eqBool, List.length_map, f11,
    Bool.not_true, Bool.not_false, Bool.false_eq_true, Bool.true_eq_false, false_implies, true_implies, and_true, true_and, Bool.and_true, Bool.true_and, Nat.ble_eq, Bool.and_eq_true, decide_eq_true_eq, inB]
  refine ⟨Does.toW (chk' ex hok), Does.toW (cln' ex hok), ?_⟩
  repeat' apply And.intro
  all_goals omega

include hok in
theorem leave_dead (hc : h - t.base < t.res) (hd : t.dead = true) :
    Does Tryz.prog env 86 [.agg [sI .i64 h, .ms 0 0 (o.length + 1) 4 none]] [frB (encFs (o ++ [t]) ++ ex)] (.tup [.agg [sI .i64 (t.base + t.res), .ms 1 0 o.length 4 none], sI .i64 0]) [frB (encFs (o ++ [t]) ++ ex), frB (encFs (o ++ [t]))] := by
  obtain ⟨f1, f2, f3, f4, f5, f6, f7, f8, f9, f10, f11⟩ := stand_facts ex hok
  obtain ⟨c0, c1, c2, c3⟩ := top_cells o t
  refine Does.fromW (rows := spT o.length t.base t.res t.dead true) ?_
  refine does_of_tree names (sleT_tree h o.length (encFs (o ++ [t]) ++ ex) (encFs (o ++ [t])) t.op t.base t.res t.dead 0) ?_
  have w1 : IntKind.i64.wrap (((o.length + 1 : Nat) : Int) - 1) = (o.length : Int) := by rw [i64In (by omega) (by omega)]; omega
  have w2 : IntKind.i64.wrap (h - t.base) = h - t.base := i64In (by omega) (by omega)
  have w3 : min t.res (h - t.base) = h - t.base := by omega
  have w4 : IntKind.i64.wrap (h - (h - t.base)) = t.base := by rw [i64In (by omega) (by omega)]; omega
  have w5 : IntKind.i64.wrap (t.base + t.res) = t.base + t.res := by exact i64In (by omega) (by omega)
  have g3 : decide (t.base > t.base) = false := by simp
  have g2 : decide (t.res > h - t.base) = true := by simp; omega
  simp only [sleTTree, Tree.ok, w3, w4, w5, g2, g3, hd, w1, w2, keep_map, set_map, Int.toNat_natCast, Nat.zero_add, Nat.sub_zero, c0, c1, c2, c3, und3, und4, normA, normP, isInt, isBool, pvInt, pvBool, ik, cond_true, eqAV_int, eqAV_bool, eqBool, List.length_map, f11,
    Bool.not_true, Bool.not_false, Bool.false_eq_true, Bool.true_eq_false, false_implies, true_implies, and_true, true_and, Bool.and_true, Bool.true_and, Nat.ble_eq, Bool.and_eq_true, decide_eq_true_eq, inB]
  refine ⟨Does.toW (chk' ex hok), Does.toW (cln' ex hok), ?_⟩
  repeat' apply And.intro
  all_goals omega

include hok in
theorem leave_left (hc : t.res < h - t.base) :
    Does Tryz.prog env 86 [.agg [sI .i64 h, .ms 0 0 (o.length + 1) 4 none]] [frB (encFs (o ++ [t]) ++ ex)] (.tup [.agg [sI .i64 0, .os none 0 0 []], sI .i64 201]) [frB (encFs (o ++ [t]) ++ ex)] := by
  obtain ⟨f1, f2, f3, f4, f5, f6, f7, f8, f9, f10, f11⟩ := stand_facts ex hok
  obtain ⟨c0, c1, c2, c3⟩ := top_cells o t
  refine Does.fromW (rows := spT o.length t.base t.res t.dead false) ?_
  refine does_of_tree names (sleF_tree h o.length (encFs (o ++ [t]) ++ ex) (encFs (o ++ [t])) t.op t.base t.res t.dead 0) ?_
  have w1 : IntKind.i64.wrap (((o.length + 1 : Nat) : Int) - 1) = (o.length : Int) := by rw [i64In (by omega) (by omega)]; omega
  have w2 : IntKind.i64.wrap (h - t.base) = h - t.base := i64In (by omega) (by omega)
  have w3 : min t.res (h - t.base) = t.res := by omega
  have w4 : IntKind.i64.wrap (h - t.res) = h - t.res := by exact i64In (by omega) (by omega)
  have g3 : decide (h - t.res > t.base) = true := by simp; omega
  have g2 : decide (t.res > h - t.base) = false := by simp; omega
  simp only [sleFTree, Tree.ok, w3, w4, g2, g3, w1, w2, keep_map, set_map, Int.toNat_natCast, Nat.zero_add, Nat.sub_zero, c0, c1, c2, c3, und3, und4, normA, normP, isInt, isBool, pvInt, pvBool, ik, cond_true, eqAV_int, eqAV_bool, eqBool, List.length_map, f11,
    Bool.not_true, Bool.not_false, Bool.false_eq_true, Bool.true_eq_false, false_implies, true_implies, and_true, true_and, Bool.and_true, Bool.true_and, Nat.ble_eq, Bool.and_eq_true, decide_eq_true_eq, inB]
  refine ⟨Does.toW (chk' ex hok), Does.toW (cln' ex hok), ?_⟩
  repeat' apply And.intro
  all_goals omega

include hok in
theorem leave_under (hc : h - t.base < t.res) (hd : t.dead = false) :
    Does Tryz.prog env 86 [.agg [sI .i64 h, .ms 0 0 (o.length + 1) 4 none]] [frB (encFs (o ++ [t]) ++ ex)] (.tup [.agg [sI .i64 0, .os none 0 0 []], sI .i64 200]) [frB (encFs (o ++ [t]) ++ ex)] := by
  obtain ⟨f1, f2, f3, f4, f5, f6, f7, f8, f9, f10, f11⟩ := stand_facts ex hok
  obtain ⟨c0, c1, c2, c3⟩ := top_cells o t
  refine Does.fromW (rows := spT o.length t.base t.res t.dead true) ?_
  refine does_of_tree names (sleT_tree h o.length (encFs (o ++ [t]) ++ ex) (encFs (o ++ [t])) t.op t.base t.res t.dead 0) ?_
  have w1 : IntKind.i64.wrap (((o.length + 1 : Nat) : Int) - 1) = (o.length : Int) := by rw [i64In (by omega) (by omega)]; omega
  have w2 : IntKind.i64.wrap (h - t.base) = h - t.base := i64In (by omega) (by omega)
  have g2 : decide (t.res > h - t.base) = true := by simp; omega
  simp only [sleTTree, Tree.ok, g2, hd, w1, w2, keep_map, set_map, Int.toNat_natCast, Nat.zero_add, Nat.sub_zero, c0, c1, c2, c3, und3, und4, normA, normP, isInt, isBool, pvInt, pvBool, ik, cond_true, eqAV_int, eqAV_bool, eqBool, List.length_map, f11,
    Bool.not_true, Bool.not_false, Bool.false_eq_true, Bool.true_eq_false, false_implies, true_implies, and_true, true_and, Bool.and_true, Bool.true_and, Nat.ble_eq, Bool.and_eq_true, decide_eq_true_eq, inB]
  refine ⟨Does.toW (chk' ex hok), Does.toW (cln' ex hok), ?_⟩
  repeat' apply And.intro
  all_goals omega

include hok in
theorem enter_ok {op n : Int} (ho : op = 2 ∨ op = 3 ∨ op = 4 ∨ op = 5) (hn : 0 ≤ n) (hn1 : n ≤ 1) (hlt : o.length + 1 < 1000) :
    Does Tryz.prog env 153 [.agg [sI .i64 h, .ms 0 0 (o.length + 1) 4 none], sI .i64 op, sI .i64 n] [frB (encFs (o ++ [t]) ++ ex)] (.tup [.agg [sI .i64 h, .ms 1 0 (o.length + 2) 4 none], sI .i64 0]) [frB (encFs (o ++ [t]) ++ ex), frB (encFs (o ++ [t] ++ [⟨op, h, n, false⟩]))] := by
  obtain ⟨f1, f2, f3, f4, f5, f6, f7, f8, f9, f10, f11⟩ := stand_facts ex hok
  have hlim : lim = 70368744177664 := rfl
  have hcl : encFs (o ++ [t] ++ [⟨op, h, n, false⟩]) = encFs (o ++ [t]) ++ frC op h n false := by rw [encFs_append]; rfl
  have htk : (encFs (o ++ [t])).take ((o.length + 1) * 4) = encFs (o ++ [t]) := List.take_of_length_le (by omega)
  have tur : Does Tryz.prog env 117 [.agg [sI .i64 h, .ms 0 0 (o.length + 1) 4 none], sB true, .fn (.func 167) [] [.mp 1 0, .mp 2 0]] [frB (encFs (o ++ [t]) ++ ex), .pc [.sc (.int .i64 op)], .pc [.sc (.int .i64 n)]]
      (.tup [.agg [sI .i64 h, .ms 3 0 (o.length + 2) 4 none], sI .i64 0]) [frB (encFs (o ++ [t]) ++ ex), .pc [.sc (.int .i64 op)], .pc [.sc (.int .i64 n)], frB (encFs (o ++ [t] ++ [⟨op, h, n, false⟩]))] := by
    refine Does.fromW (rows := spT o.length t.base t.res t.dead false) ?_
    refine does_of_tree names (stur_tree h o.length (encFs (o ++ [t]) ++ ex) (encFs (o ++ [t])) op t.base t.res t.dead n) ?_
    have w1 : IntKind.i64.wrap (((o.length + 1 : Nat) : Int) - 1) = (o.length : Int) := by rw [i64In (by omega) (by omega)]; omega
    have g1 : decide (((o.length + 1 : Nat) : Int) ≥ 1000) = false := by simp; omega
    have hm : List.map AV.p (encFs (o ++ [t])) ++ [AV.p (PV.sc (Value.int IntKind.i64 op)), AV.p (PV.sc (Value.int IntKind.i64 h)), AV.p (PV.sc (Value.int IntKind.i64 n)), AV.p (PV.sc (Value.bool false))] = List.map AV.p (encFs (o ++ [t] ++ [⟨op, h, n, false⟩])) := by rw [hcl, List.map_append]; rfl
    simp only [sturTree, Tree.ok, w1, g1, keep_map, ← List.map_take, htk, hm, List.length_map, f11, Bool.false_eq_true, false_implies, true_implies, and_true, true_and, Bool.and_true, Nat.ble_eq, Bool.and_eq_true, decide_eq_true_eq, inB]
    refine ⟨Does.toW (chk' ex hok), Does.toW (cln' ex hok), ?_⟩
    repeat' apply And.intro
    all_goals omega
  refine Does.fromW (rows := [(153, 13, sB true), (153, 17, sB true)]) ?_
  refine does_of_tree names (sent_tree h o.length (encFs (o ++ [t]) ++ ex) (encFs (o ++ [t] ++ [⟨op, h, n, false⟩])) op t.base t.res t.dead n) ?_
  have g1 : decide (n ≥ 0) = true := by simp; omega
  have g2 : decide (n ≤ 1) = true := by simp; omega
  simp only [sentTree, Tree.ok, g1, g2, keep_map, eqAV_bool, eqBool, and_true, true_and, Bool.and_true]
  exact ⟨Does.toW (list_does ho), Does.toW tur⟩

end
end Go.Proofs.YtgbphddecpjlhaaGreatDoor.N
end
