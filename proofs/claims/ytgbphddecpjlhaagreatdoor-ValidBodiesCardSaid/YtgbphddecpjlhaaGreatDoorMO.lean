/-
  The document's judge: its functions' trees (printed by a program of mine).
  The document's judge: what each of its functions without lists tells.
-/
import Derived.Test.YtgbphddecpjlhaaGreatDoorMN

section
set_option linter.unusedSimpArgs false
set_option linter.unusedVariables false
namespace Go.Proofs.YtgbphddecpjlhaaGreatDoor.N
open Go Go.Am

abbrev jlC (L : List Nat) : List PV := L.map fun (k : Nat) => PV.sc (Value.int IntKind.i64 k)
structure Jd where
  M : Md
  tP : Int
  tR : Int
  own : Int
  L : List Nat
abbrev jB (J : Jd) (c e p : Int) : Blk := .ac (J.M.cells ++ [sI .i64 J.tP, sI .i64 J.tR, sI .i64 J.own, .os (some 1) J.L.length 1 (jlC J.L), sI .i64 c, sI .i64 e, sI .i64 p])
abbrev jM (J : Jd) (c e p : Int) : Mem := [jB J c e p, .tok]
def jK (J : Jd) (c e p : Int) : Blk := jB J c e p
abbrev hv (n : Int) (d : Bool) : AV := .agg [sI .i64 n, sB d]
def jnEF (J : Jd) (c : Int) (op r a b nn : Int) (tg : List Int) (ll le : List Ins) (x al : Int) (st g mu : Bool) : Env := envW [(124, 58, sB false)]
def jnET (J : Jd) (c : Int) (op r a b nn : Int) (tg : List Int) (ll le : List Ins) (x al : Int) (st g mu : Bool) : Env := envW [(124, 58, sB true)]
def jnS (J : Jd) (c : Int) (op r a b nn : Int) (tg : List Int) (ll le : List Ins) (x al : Int) (st g mu : Bool) : FuncId → Nat → Nat → Option (AV → AV) := shapeAt [(124, 9, 13, sB mu)]
def jcQ (J : Jd) (c : Int) (r a b nn : Int) (tg : List Int) (ll le : List Ins) (n : Int) (d : Bool) (x P Q P2 Q2 : Int) (is : Bool) (n1 e1 p1 n2 e2 p2 : Int) (i : Nat) (f : FuncId) (_ : List AV) (m : Mem) : Option (AV × Mem) :=
  cond (Nat.beq f 57) (some (.tup [.agg [sI .i64 P, sI .i64 Q], sB is], m)) (cond (Nat.beq f 93) (match i with | 1 => some (hv n1 d, jM J c e1 p1) | _ => some (hv n2 d, jM J c e2 p2)) none)
def jdEF (J : Jd) (c : Int) (r a b nn : Int) (tg : List Int) (ll le : List Ins) (n : Int) (d : Bool) (x P Q P2 Q2 : Int) (is : Bool) (n1 e1 p1 n2 e2 p2 : Int) : Env := envW [(123, 30, sB false)]
def jdET (J : Jd) (c : Int) (r a b nn : Int) (tg : List Int) (ll le : List Ins) (n : Int) (d : Bool) (x P Q P2 Q2 : Int) (is : Bool) (n1 e1 p1 n2 e2 p2 : Int) : Env := envW [(123, 30, sB true)]
def jdS (J : Jd) (c : Int) (r a b nn : Int) (tg : List Int) (ll le : List Ins) (n : Int) (d : Bool) (x P Q P2 Q2 : Int) (is : Bool) (n1 e1 p1 n2 e2 p2 : Int) : FuncId → Nat → Nat → Option (AV → AV) := shapeAt [(123, 6, 8, .agg [sI .i64 P2, sI .i64 Q2])]

abbrev jB3 (J : Jd) (t : Nat) (c e p : Int) : Blk := .ac (J.M.cells ++ [sI .i64 J.tP, sI .i64 J.tR, sI .i64 J.own, .os (some t) J.L.length 1 (jlC J.L), sI .i64 c, sI .i64 e, sI .i64 p])
abbrev wos (W : List Nat) : AV := .os (some 1) W.length 1 (jlC W)
def jtQ (J : Jd) (W : List Nat) (l : List Ins) (i : Nat) (rs x n : Int) (d : Bool) (c e p : Int) (n1 : Int) (d1 : Bool) (c1 e1 p1 n2 e2 p2 : Int) (op r a b nn : Int) (tg : List Int) (ll le : List Ins) (ph : Nat) (f : FuncId) (_ : List AV) (m : Mem) : Option (AV × Mem) :=
  cond (Nat.beq f 92) (some (hv n1 d1, jM J c1 e1 p1)) (cond (Nat.beq f 93) (some (hv n2 d, jM J c e2 p2)) none)
def jtS (J : Jd) (W : List Nat) (l : List Ins) (i : Nat) (rs x n : Int) (d : Bool) (c e p : Int) (n1 : Int) (d1 : Bool) (c1 e1 p1 n2 e2 p2 : Int) (op r a b nn : Int) (tg : List Int) (ll le : List Ins) : FuncId → Nat → Nat → Option (AV → AV) := shapeAt [(39, 8, 4, aggI op r a b nn tg ll le), (39, 6, 1, sI .i64 (i + 1 : Nat))]
def ty2S (M : Md) (a : Nat) (T P Q : Int) : FuncId → Nat → Nat → Option (AV → AV) := shapeAt [(57, 4, 5, sI .i64 T), (57, 6, 10, sI .i64 T), (57, 9, 4, .agg [sI .i64 P, sI .i64 Q])]

noncomputable def jlbOrc : Orc := orcL noCall noLed [] [(145, 0, 0), (94, 0, 0)] [(145, 0, 1)]
def jlbSc : Sc := .fin
noncomputable def jlbTree (J : Jd) (c e p a x : Int) : Tree :=
 (.test (decide (IntKind.i64.wrap a ≥ (↑J.L.length : Int)))
 (.test (e == 0)
 (.must true
 (.out (.ret (sI .i64 0) [jK J c 6 x, .tok])))
 (.must true
 (.out (.ret (sI .i64 0) [jK J c e p, .tok]))))
 (.must (inB (IntKind.i64.wrap (IntKind.i64.wrap ((↑J.L.length : Int) - 1) - IntKind.i64.wrap a)) J.L.length && true && (isInt IntKind.i64 ((jlC J.L).getD ((IntKind.i64.wrap (IntKind.i64.wrap ((↑J.L.length : Int) - 1) - IntKind.i64.wrap a)).toNat * 1) PV.bad) && true) && true)
 (.must true
 (.out (.ret (sI .i64 (pvInt ((jlC J.L).getD ((IntKind.i64.wrap (IntKind.i64.wrap ((↑J.L.length : Int) - 1) - IntKind.i64.wrap a)).toNat * 1) PV.bad))) [jK J c e p, .tok])))))
theorem jlb_tree (J : Jd) (c e p a x : Int) : growF Tryz.prog env jlbOrc 1000000 145 ([AV.mp 0 0, sI IntKind.u32 a, sI IntKind.i64 x]) (jM J c e p) jlbSc = jlbTree J c e p a x := by kernel_rfl

noncomputable def jpoOrc : Orc := orcL noCall noLed [] [(93, 2, 5), (93, 0, 0), (94, 0, 0)] []
def jpoSc : Sc := (.fork .fin (.lit .fin))
noncomputable def jpoTree (J : Jd) (c e p n : Int) (d : Bool) (k x : Int) : Tree :=
 (.test (decide (k > n))
 (.test (!d)
 (.test (e == 0)
 (.out (.ret (.agg [sI .i64 (bif false then Min.min (IntKind.i64.wrap (n - k)) 0 else Max.max (IntKind.i64.wrap (n - k)) 0), .p (.sc (.bool d))]) [jK J c 200 x, .tok]))
 (.out (.ret (.agg [sI .i64 (bif false then Min.min (IntKind.i64.wrap (n - k)) 0 else Max.max (IntKind.i64.wrap (n - k)) 0), .p (.sc (.bool d))]) [jK J c e p, .tok])))
 (.out (.ret (.agg [sI .i64 (bif false then Min.min (IntKind.i64.wrap (n - k)) 0 else Max.max (IntKind.i64.wrap (n - k)) 0), .p (.sc (.bool d))]) [jK J c e p, .tok])))
 (.out (.ret (.agg [sI .i64 (bif false then Min.min (IntKind.i64.wrap (n - k)) 0 else Max.max (IntKind.i64.wrap (n - k)) 0), .p (.sc (.bool d))]) [jK J c e p, .tok])))
theorem jpo_tree (J : Jd) (c e p n : Int) (d : Bool) (k x : Int) : growF Tryz.prog env jpoOrc 1000000 93 ([AV.mp 0 0, hv n d, sI IntKind.i64 k, sI IntKind.i64 x]) (jM J c e p) jpoSc = jpoTree J c e p n d k x := by kernel_rfl

noncomputable def jnaFOrc (J : Jd) (c op r a b nn : Int) (tg : List Int) (ll : List Ins) (le : List Ins) (x al : Int) (st : Bool) (g : Bool) (mu : Bool) : Orc := orcS noCall noLed [] [(124, 3, 4), (124, 0, 0), (124, 0, 1), (124, 6, 4), (124, 0, 3), (124, 0, 2), (124, 11, 2), (124, 0, 6), (124, 14, 2), (124, 0, 7), (124, 11, 7), (124, 0, 5)] [(124, 0, 4)] (jnS J c op r a b nn tg ll le x al st g mu)
noncomputable def jnaFSc (J : Jd) (c op r a b nn : Int) (tg : List Int) (ll : List Ins) (le : List Ins) (x al : Int) (st : Bool) (g : Bool) (mu : Bool) : Sc := (.ans 146 (.tup [sI .u32 al, .p (.sc (.bool st))]) ([]) (.fork (.fork .fin (.fork (.lit .fin) (.fork .fin (.fork (.lit (.lit (.fork (.yes .fin) (.yes .fin)))) (.fork (.lit (.fork (.no (.lit .fin)) (.no (.lit .fin)))) (.fork (.fork (.no (.lit .fin)) (.no (.lit .fin))) .fin)))))) (.lit (.no (.no (.fork (.lit (.lit (.fork (.yes .fin) (.yes .fin)))) (.no (.no .fin))))))))
noncomputable def jnaFTree (J : Jd) (c op r a b nn : Int) (tg : List Int) (ll : List Ins) (le : List Ins) (x al : Int) (st : Bool) (g : Bool) (mu : Bool) : Tree :=
 (.call ⟨146, [sI .i64 op], [], .tup [sI .u32 al, .p (.sc (.bool st))], []⟩
 (.test (decide (op ≥ 32))
 (.test (decide (op ≤ 34))
 (.test (decide (IntKind.i64.wrap a ≥ J.own))
 (.out (.ret (.tup []) [jK J c 6 x, .tok]))
 (.out (.ret (.tup []) [jK J c 0 0, .tok])))
 (.test (op == 35)
 (.test (decide (IntKind.i64.wrap a ≥ (↑J.M.glN : Int)))
 (.out (.ret (.tup []) [jK J c 6 x, .tok]))
 (.must (eqAV (.p (.sc (.bool (op == 36)))) (sB false) && true && true)
 (.out (.ret (.tup []) [jK J c 0 0, .tok]))))
 (.test (op == 36)
 (.test (decide (IntKind.i64.wrap a ≥ (↑J.M.glN : Int)))
 (.out (.ret (.tup []) [jK J c 6 x, .tok]))
 (.must (eqAV (.p (.sc (.bool (op == 36)))) (sB false) && true && true)
 (.out (.ret (.tup []) [jK J c 0 0, .tok]))))
 (.test (st)
 (.test ((↑J.M.meN : Int) == 0)
 (.must (st)
 (.test (decide (a > al))
 (.out (.ret (.tup []) [jK J c 6 x, .tok]))
 (.out (.ret (.tup []) [jK J c 6 x, .tok]))))
 (.must (st)
 (.test (decide (a > al))
 (.out (.ret (.tup []) [jK J c 211 x, .tok]))
 (.out (.ret (.tup []) [jK J c 0 0, .tok])))))
 (.test (op == 63)
 (.test ((↑J.M.meN : Int) == 0)
 (.must (!(st))
 (.out (.ret (.tup []) [jK J c 6 x, .tok])))
 (.must (!(st))
 (.out (.ret (.tup []) [jK J c 0 0, .tok]))))
 (.test (op == 64)
 (.test ((↑J.M.meN : Int) == 0)
 (.must (!(st))
 (.out (.ret (.tup []) [jK J c 6 x, .tok])))
 (.must (!(st))
 (.out (.ret (.tup []) [jK J c 0 0, .tok]))))
 (.out (.ret (.tup []) [jK J c 0 0, .tok]))))))))
 (.must (!(op == 35))
 (.must (!(op == 36))
 (.test (st)
 (.test ((↑J.M.meN : Int) == 0)
 (.must (st)
 (.test (decide (a > al))
 (.out (.ret (.tup []) [jK J c 6 x, .tok]))
 (.out (.ret (.tup []) [jK J c 6 x, .tok]))))
 (.must (st)
 (.test (decide (a > al))
 (.out (.ret (.tup []) [jK J c 211 x, .tok]))
 (.out (.ret (.tup []) [jK J c 0 0, .tok])))))
 (.must (!(op == 63))
 (.must (!(op == 64))
 (.out (.ret (.tup []) [jK J c 0 0, .tok])))))))))
theorem jnaF_tree (J : Jd) (c op r a b nn : Int) (tg : List Int) (ll : List Ins) (le : List Ins) (x al : Int) (st : Bool) (g : Bool) (mu : Bool) : growF Tryz.prog (jnEF J c op r a b nn tg ll le x al st g mu) (jnaFOrc J c op r a b nn tg ll le x al st g mu) 1000000 124 ([AV.mp 0 0, aggI op r a b nn tg ll le, sI IntKind.i64 x]) (jM J c 0 0) (jnaFSc J c op r a b nn tg ll le x al st g mu) = jnaFTree J c op r a b nn tg ll le x al st g mu := by kernel_rfl

noncomputable def jnaTOrc (J : Jd) (c op r a b nn : Int) (tg : List Int) (ll : List Ins) (le : List Ins) (x al : Int) (st : Bool) (g : Bool) (mu : Bool) : Orc := orcS noCall noLed [] [(124, 3, 4), (124, 0, 0), (124, 0, 1), (124, 6, 4), (124, 0, 3), (124, 0, 4), (124, 0, 2), (124, 11, 2), (124, 0, 6), (124, 14, 2), (124, 0, 7), (124, 11, 7), (124, 0, 5)] [(124, 0, 4)] (jnS J c op r a b nn tg ll le x al st g mu)
noncomputable def jnaTSc (J : Jd) (c op r a b nn : Int) (tg : List Int) (ll : List Ins) (le : List Ins) (x al : Int) (st : Bool) (g : Bool) (mu : Bool) : Sc := (.ans 146 (.tup [sI .u32 al, .p (.sc (.bool st))]) ([]) (.fork (.fork .fin (.fork (.lit .fin) (.fork .fin (.fork (.lit (.lit (.fork (.yes .fin) (.yes .fin)))) (.fork (.lit (.fork (.no (.lit .fin)) (.no (.lit .fin)))) (.fork (.fork (.no (.lit .fin)) (.no (.lit .fin))) .fin)))))) (.lit (.no (.no (.fork (.lit (.lit (.fork (.yes .fin) (.yes .fin)))) (.no (.no .fin))))))))
noncomputable def jnaTTree (J : Jd) (c op r a b nn : Int) (tg : List Int) (ll : List Ins) (le : List Ins) (x al : Int) (st : Bool) (g : Bool) (mu : Bool) : Tree :=
 (.call ⟨146, [sI .i64 op], [], .tup [sI .u32 al, .p (.sc (.bool st))], []⟩
 (.test (decide (op ≥ 32))
 (.test (decide (op ≤ 34))
 (.test (decide (IntKind.i64.wrap a ≥ J.own))
 (.out (.ret (.tup []) [jK J c 6 x, .tok]))
 (.out (.ret (.tup []) [jK J c 0 0, .tok])))
 (.test (op == 35)
 (.test (decide (IntKind.i64.wrap a ≥ (↑J.M.glN : Int)))
 (.out (.ret (.tup []) [jK J c 6 x, .tok]))
 (.must (eqAV (.p (.sc (.bool (op == 36)))) (sB true) && (inB a J.M.glN && true && true && (isBool (J.M.glC.getD (a.toNat * 2 + 0) PV.bad) && true && true)) && true)
 (.test (!pvBool (J.M.glC.getD (a.toNat * 2 + 0) PV.bad))
 (.out (.ret (.tup []) [jK J c 212 x, .tok]))
 (.out (.ret (.tup []) [jK J c 0 0, .tok])))))
 (.test (op == 36)
 (.test (decide (IntKind.i64.wrap a ≥ (↑J.M.glN : Int)))
 (.out (.ret (.tup []) [jK J c 6 x, .tok]))
 (.must (eqAV (.p (.sc (.bool (op == 36)))) (sB true) && (inB a J.M.glN && true && true && (isBool (J.M.glC.getD (a.toNat * 2 + 0) PV.bad) && true && true)) && true)
 (.test (!pvBool (J.M.glC.getD (a.toNat * 2 + 0) PV.bad))
 (.out (.ret (.tup []) [jK J c 212 x, .tok]))
 (.out (.ret (.tup []) [jK J c 0 0, .tok])))))
 (.test (st)
 (.test ((↑J.M.meN : Int) == 0)
 (.must (st)
 (.test (decide (a > al))
 (.out (.ret (.tup []) [jK J c 6 x, .tok]))
 (.out (.ret (.tup []) [jK J c 6 x, .tok]))))
 (.must (st)
 (.test (decide (a > al))
 (.out (.ret (.tup []) [jK J c 211 x, .tok]))
 (.out (.ret (.tup []) [jK J c 0 0, .tok])))))
 (.test (op == 63)
 (.test ((↑J.M.meN : Int) == 0)
 (.must (!(st))
 (.out (.ret (.tup []) [jK J c 6 x, .tok])))
 (.must (!(st))
 (.out (.ret (.tup []) [jK J c 0 0, .tok]))))
 (.test (op == 64)
 (.test ((↑J.M.meN : Int) == 0)
 (.must (!(st))
 (.out (.ret (.tup []) [jK J c 6 x, .tok])))
 (.must (!(st))
 (.out (.ret (.tup []) [jK J c 0 0, .tok]))))
 (.out (.ret (.tup []) [jK J c 0 0, .tok]))))))))
 (.must (!(op == 35))
 (.must (!(op == 36))
 (.test (st)
 (.test ((↑J.M.meN : Int) == 0)
 (.must (st)
 (.test (decide (a > al))
 (.out (.ret (.tup []) [jK J c 6 x, .tok]))
 (.out (.ret (.tup []) [jK J c 6 x, .tok]))))
 (.must (st)
 (.test (decide (a > al))
 (.out (.ret (.tup []) [jK J c 211 x, .tok]))
 (.out (.ret (.tup []) [jK J c 0 0, .tok])))))
 (.must (!(op == 63))
 (.must (!(op == 64))
 (.out (.ret (.tup []) [jK J c 0 0, .tok])))))))))
theorem jnaT_tree (J : Jd) (c op r a b nn : Int) (tg : List Int) (ll : List Ins) (le : List Ins) (x al : Int) (st : Bool) (g : Bool) (mu : Bool) : growF Tryz.prog (jnET J c op r a b nn tg ll le x al st g mu) (jnaTOrc J c op r a b nn tg ll le x al st g mu) 1000000 124 ([AV.mp 0 0, aggI op r a b nn tg ll le, sI IntKind.i64 x]) (jM J c 0 0) (jnaTSc J c op r a b nn tg ll le x al st g mu) = jnaTTree J c op r a b nn tg ll le x al st g mu := by kernel_rfl

noncomputable def jcaOrc : Orc := orcL noCall noLed [] [(123, 0, 2)] []
noncomputable def jcaSc (J : Jd) (c r a b nn : Int) (tg : List Int) (ll : List Ins) (le : List Ins) (n : Int) (d : Bool) (x P Q P2 Q2 : Int) (is : Bool) (n1 e1 p1 n2 e2 p2 : Int) : Sc := (.led 123 1 (jcQ J c r a b nn tg ll le n d x P Q P2 Q2 is n1 e1 p1 n2 e2 p2 0) (.fork .fin (.ans 93 (.agg [sI .i64 n1, .p (.sc (.bool d))]) ([jK J c e1 p1, .tok]) .fin)))
noncomputable def jcaTree (J : Jd) (c r a b nn : Int) (tg : List Int) (ll : List Ins) (le : List Ins) (n : Int) (d : Bool) (x P Q P2 Q2 : Int) (is : Bool) (n1 e1 p1 n2 e2 p2 : Int) : Tree :=
 (.call ⟨57, [.agg (cellsD J.M), sI .u32 a], [], .tup [.agg [sI .i64 P, sI .i64 Q], .p (.sc (.bool is))], []⟩
 (.test (!is)
 (.out (.ret (.agg [sI .i64 n, .p (.sc (.bool d))]) [jK J c 6 x, .tok]))
 (.call ⟨93, [.mp 0 0, .agg [sI .i64 n, .p (.sc (.bool d))], sI .i64 P, sI .i64 x], [jK J c 0 0, .tok], .agg [sI .i64 n1, .p (.sc (.bool d))], [jK J c e1 p1, .tok]⟩
 (.out (.ret (.agg [sI .i64 (IntKind.i64.wrap (n1 + Q)), .p (.sc (.bool d))]) [jK J c e1 p1, .tok])))))
theorem jca_tree (J : Jd) (c r a b nn : Int) (tg : List Int) (ll : List Ins) (le : List Ins) (n : Int) (d : Bool) (x P Q P2 Q2 : Int) (is : Bool) (n1 e1 p1 n2 e2 p2 : Int) : growF Tryz.prog env jcaOrc 1000000 123 ([AV.mp 0 0, aggI 16 r a b nn tg ll le, hv n d, sI IntKind.i64 x]) (jM J c 0 0) (jcaSc J c r a b nn tg ll le n d x P Q P2 Q2 is n1 e1 p1 n2 e2 p2) = jcaTree J c r a b nn tg ll le n d x P Q P2 Q2 is n1 e1 p1 n2 e2 p2 := by kernel_rfl

noncomputable def jdaFOrc (J : Jd) (c r a b nn : Int) (tg : List Int) (ll : List Ins) (le : List Ins) (n : Int) (d : Bool) (x P Q P2 Q2 : Int) (is : Bool) (n1 e1 p1 n2 e2 p2 : Int) : Orc := orcS noCall noLed [] [] [(123, 0, 1)] (jdS J c r a b nn tg ll le n d x P Q P2 Q2 is n1 e1 p1 n2 e2 p2)
noncomputable def jdaFSc (J : Jd) (c r a b nn : Int) (tg : List Int) (ll : List Ins) (le : List Ins) (n : Int) (d : Bool) (x P Q P2 Q2 : Int) (is : Bool) (n1 e1 p1 n2 e2 p2 : Int) : Sc := (.led 123 1 (jcQ J c r a b nn tg ll le n d x P Q P2 Q2 is n1 e1 p1 n2 e2 p2 0) .fin)
noncomputable def jdaFTree (J : Jd) (c r a b nn : Int) (tg : List Int) (ll : List Ins) (le : List Ins) (n : Int) (d : Bool) (x P Q P2 Q2 : Int) (is : Bool) (n1 e1 p1 n2 e2 p2 : Int) : Tree :=
 (.call ⟨57, [.agg (cellsD J.M), sI .u32 a], [], .tup [.agg [sI .i64 P, sI .i64 Q], .p (.sc (.bool is))], []⟩
 (.must (eqAV (.p (.sc (.bool (decide ((↑J.M.taN : Int) > 0))))) (sB false) && true && true)
 (.out (.ret (.agg [sI .i64 n, .p (.sc (.bool d))]) [jK J c 6 x, .tok]))))
theorem jdaF_tree (J : Jd) (c r a b nn : Int) (tg : List Int) (ll : List Ins) (le : List Ins) (n : Int) (d : Bool) (x P Q P2 Q2 : Int) (is : Bool) (n1 e1 p1 n2 e2 p2 : Int) : growF Tryz.prog (jdEF J c r a b nn tg ll le n d x P Q P2 Q2 is n1 e1 p1 n2 e2 p2) (jdaFOrc J c r a b nn tg ll le n d x P Q P2 Q2 is n1 e1 p1 n2 e2 p2) 1000000 123 ([AV.mp 0 0, aggI 17 r a b nn tg ll le, hv n d, sI IntKind.i64 x]) (jM J c 0 0) (jdaFSc J c r a b nn tg ll le n d x P Q P2 Q2 is n1 e1 p1 n2 e2 p2) = jdaFTree J c r a b nn tg ll le n d x P Q P2 Q2 is n1 e1 p1 n2 e2 p2 := by kernel_rfl

noncomputable def jdaTOrc (J : Jd) (c r a b nn : Int) (tg : List Int) (ll : List Ins) (le : List Ins) (n : Int) (d : Bool) (x P Q P2 Q2 : Int) (is : Bool) (n1 e1 p1 n2 e2 p2 : Int) : Orc := orcS noCall noLed [] [(123, 0, 1), (123, 0, 2)] [(123, 0, 1), (123, 0, 2)] (jdS J c r a b nn tg ll le n d x P Q P2 Q2 is n1 e1 p1 n2 e2 p2)
noncomputable def jdaTSc (J : Jd) (c r a b nn : Int) (tg : List Int) (ll : List Ins) (le : List Ins) (n : Int) (d : Bool) (x P Q P2 Q2 : Int) (is : Bool) (n1 e1 p1 n2 e2 p2 : Int) : Sc := (.led 123 1 (jcQ J c r a b nn tg ll le n d x P Q P2 Q2 is n1 e1 p1 n2 e2 p2 0) (.fork (.no (.ans 93 (.agg [sI .i64 n1, .p (.sc (.bool d))]) ([jK J c e1 p1, .tok]) (.ans 93 (.agg [sI .i64 n2, .p (.sc (.bool d))]) ([jK J c e2 p2, .tok]) .fin))) (.yes .fin)))
noncomputable def jdaTTree (J : Jd) (c r a b nn : Int) (tg : List Int) (ll : List Ins) (le : List Ins) (n : Int) (d : Bool) (x P Q P2 Q2 : Int) (is : Bool) (n1 e1 p1 n2 e2 p2 : Int) : Tree :=
 (.call ⟨57, [.agg (cellsD J.M), sI .u32 a], [], .tup [.agg [sI .i64 P, sI .i64 Q], .p (.sc (.bool is))], []⟩
 (.must (eqAV (.p (.sc (.bool (decide ((↑J.M.taN : Int) > 0))))) (sB true) && true && true)
 (.test (decide (IntKind.i64.wrap a < (↑J.M.tyN : Int)))
 (.must (inB a J.M.tyN && true && true && (isInt IntKind.i64 (J.M.tyC.getD (a.toNat * 2) PV.bad) && (isInt IntKind.i64 (J.M.tyC.getD (a.toNat * 2 + 1) PV.bad) && true) && true && true) && true)
 (.must (!(!decide (IntKind.i64.wrap a < (↑J.M.tyN : Int))))
 (.call ⟨93, [.mp 0 0, .agg [sI .i64 n, .p (.sc (.bool d))], sI .i64 1, sI .i64 x], [jK J c 0 0, .tok], .agg [sI .i64 n1, .p (.sc (.bool d))], [jK J c e1 p1, .tok]⟩
 (.call ⟨93, [.mp 0 0, .agg [sI .i64 n1, .p (.sc (.bool d))], sI .i64 (pvInt (J.M.tyC.getD (a.toNat * 2) PV.bad)), sI .i64 x], [jK J c e1 p1, .tok], .agg [sI .i64 n2, .p (.sc (.bool d))], [jK J c e2 p2, .tok]⟩
 (.out (.ret (.agg [sI .i64 (IntKind.i64.wrap (n2 + pvInt (J.M.tyC.getD (a.toNat * 2 + 1) PV.bad))), .p (.sc (.bool d))]) [jK J c e2 p2, .tok]))))))
 (.must (!decide (IntKind.i64.wrap a < (↑J.M.tyN : Int)))
 (.out (.ret (.agg [sI .i64 n, .p (.sc (.bool d))]) [jK J c 6 x, .tok]))))))
theorem jdaT_tree (J : Jd) (c r a b nn : Int) (tg : List Int) (ll : List Ins) (le : List Ins) (n : Int) (d : Bool) (x P Q P2 Q2 : Int) (is : Bool) (n1 e1 p1 n2 e2 p2 : Int) : growF Tryz.prog (jdET J c r a b nn tg ll le n d x P Q P2 Q2 is n1 e1 p1 n2 e2 p2) (jdaTOrc J c r a b nn tg ll le n d x P Q P2 Q2 is n1 e1 p1 n2 e2 p2) 1000000 123 ([AV.mp 0 0, aggI 17 r a b nn tg ll le, hv n d, sI IntKind.i64 x]) (jM J c 0 0) (jdaTSc J c r a b nn tg ll le n d x P Q P2 Q2 is n1 e1 p1 n2 e2 p2) = jdaTTree J c r a b nn tg ll le n d x P Q P2 Q2 is n1 e1 p1 n2 e2 p2 := by kernel_rfl

noncomputable def jjrOrc : Orc := orcL noCall noLed [] [] []
noncomputable def jjrSc (J : Jd) (c r a b nn : Int) (tg : List Int) (ll : List Ins) (le : List Ins) (n : Int) (d : Bool) (x k n1 e1 p1 n2 e2 p2 e3 p3 : Int) : Sc := (.ans 93 (.agg [sI .i64 n1, .p (.sc (.bool d))]) ([jK J c e1 p1, .tok]) .fin)
noncomputable def jjrTree (J : Jd) (c r a b nn : Int) (tg : List Int) (ll : List Ins) (le : List Ins) (n : Int) (d : Bool) (x k n1 e1 p1 n2 e2 p2 e3 p3 : Int) : Tree :=
 (.call ⟨93, [.mp 0 0, .agg [sI .i64 n, .p (.sc (.bool d))], sI .i64 J.tR, sI .i64 x], [jK J c 0 0, .tok], .agg [sI .i64 n1, .p (.sc (.bool d))], [jK J c e1 p1, .tok]⟩
 (.out (.ret (.agg [sI .i64 0, sB true]) [jK J c e1 p1, .tok])))
theorem jjr_tree (J : Jd) (c r a b nn : Int) (tg : List Int) (ll : List Ins) (le : List Ins) (n : Int) (d : Bool) (x k n1 e1 p1 n2 e2 p2 e3 p3 : Int) : growF Tryz.prog env jjrOrc 1000000 122 ([AV.mp 0 0, aggI 15 r a b nn tg ll le, hv n d, sI IntKind.i64 x]) (jM J c 0 0) (jjrSc J c r a b nn tg ll le n d x k n1 e1 p1 n2 e2 p2 e3 p3) = jjrTree J c r a b nn tg ll le n d x k n1 e1 p1 n2 e2 p2 e3 p3 := by kernel_rfl

noncomputable def jjbOrc : Orc := orcL noCall noLed [] [] []
noncomputable def jjbSc (J : Jd) (c r a b nn : Int) (tg : List Int) (ll : List Ins) (le : List Ins) (n : Int) (d : Bool) (x k n1 e1 p1 n2 e2 p2 e3 p3 : Int) : Sc := (.ans 145 (sI .i64 k) ([jK J c e3 p3, .tok]) (.ans 93 (.agg [sI .i64 n1, .p (.sc (.bool d))]) ([jK J c e1 p1, .tok]) .fin))
noncomputable def jjbTree (J : Jd) (c r a b nn : Int) (tg : List Int) (ll : List Ins) (le : List Ins) (n : Int) (d : Bool) (x k n1 e1 p1 n2 e2 p2 e3 p3 : Int) : Tree :=
 (.call ⟨145, [.mp 0 0, sI .u32 a, sI .i64 x], [jK J c 0 0, .tok], sI .i64 k, [jK J c e3 p3, .tok]⟩
 (.call ⟨93, [.mp 0 0, .agg [sI .i64 n, .p (.sc (.bool d))], sI .i64 k, sI .i64 x], [jK J c e3 p3, .tok], .agg [sI .i64 n1, .p (.sc (.bool d))], [jK J c e1 p1, .tok]⟩
 (.out (.ret (.agg [sI .i64 0, sB true]) [jK J c e1 p1, .tok]))))
theorem jjb_tree (J : Jd) (c r a b nn : Int) (tg : List Int) (ll : List Ins) (le : List Ins) (n : Int) (d : Bool) (x k n1 e1 p1 n2 e2 p2 e3 p3 : Int) : growF Tryz.prog env jjbOrc 1000000 122 ([AV.mp 0 0, aggI 12 r a b nn tg ll le, hv n d, sI IntKind.i64 x]) (jM J c 0 0) (jjbSc J c r a b nn tg ll le n d x k n1 e1 p1 n2 e2 p2 e3 p3) = jjbTree J c r a b nn tg ll le n d x k n1 e1 p1 n2 e2 p2 e3 p3 := by kernel_rfl

noncomputable def jjiOrc : Orc := orcL noCall noLed [] [] []
noncomputable def jjiSc (J : Jd) (c r a b nn : Int) (tg : List Int) (ll : List Ins) (le : List Ins) (n : Int) (d : Bool) (x k n1 e1 p1 n2 e2 p2 e3 p3 : Int) : Sc := (.ans 145 (sI .i64 k) ([jK J c e3 p3, .tok]) (.ans 93 (.agg [sI .i64 n1, .p (.sc (.bool d))]) ([jK J c e1 p1, .tok]) (.ans 93 (.agg [sI .i64 n2, .p (.sc (.bool d))]) ([jK J c e2 p2, .tok]) .fin)))
noncomputable def jjiTree (J : Jd) (c r a b nn : Int) (tg : List Int) (ll : List Ins) (le : List Ins) (n : Int) (d : Bool) (x k n1 e1 p1 n2 e2 p2 e3 p3 : Int) : Tree :=
 (.call ⟨145, [.mp 0 0, sI .u32 a, sI .i64 x], [jK J c 0 0, .tok], sI .i64 k, [jK J c e3 p3, .tok]⟩
 (.call ⟨93, [.mp 0 0, .agg [sI .i64 n, .p (.sc (.bool d))], sI .i64 1, sI .i64 x], [jK J c e3 p3, .tok], .agg [sI .i64 n1, .p (.sc (.bool d))], [jK J c e1 p1, .tok]⟩
 (.call ⟨93, [.mp 0 0, .agg [sI .i64 n1, .p (.sc (.bool d))], sI .i64 k, sI .i64 x], [jK J c e1 p1, .tok], .agg [sI .i64 n2, .p (.sc (.bool d))], [jK J c e2 p2, .tok]⟩
 (.out (.ret (.agg [sI .i64 (IntKind.i64.wrap (n2 + k)), .p (.sc (.bool d))]) [jK J c e2 p2, .tok])))))
theorem jji_tree (J : Jd) (c r a b nn : Int) (tg : List Int) (ll : List Ins) (le : List Ins) (n : Int) (d : Bool) (x k n1 e1 p1 n2 e2 p2 e3 p3 : Int) : growF Tryz.prog env jjiOrc 1000000 122 ([AV.mp 0 0, aggI 13 r a b nn tg ll le, hv n d, sI IntKind.i64 x]) (jM J c 0 0) (jjiSc J c r a b nn tg ll le n d x k n1 e1 p1 n2 e2 p2 e3 p3) = jjiTree J c r a b nn tg ll le n d x k n1 e1 p1 n2 e2 p2 e3 p3 := by kernel_rfl

noncomputable def jjtOrc : Orc := orcL noCall noLed [(122, 3), (122, 5)] [] []
noncomputable def jjtSc (J : Jd) (c r a b nn : Int) (tg : List Int) (ll : List Ins) (le : List Ins) (n : Int) (d : Bool) (x k n1 e1 p1 n2 e2 p2 e3 p3 : Int) : Sc := .fin
noncomputable def jjtTree (J : Jd) (c r a b nn : Int) (tg : List Int) (ll : List Ins) (le : List Ins) (n : Int) (d : Bool) (x k n1 e1 p1 n2 e2 p2 e3 p3 : Int) : Tree :=
 (.at (bodyCfg Tryz.prog env 122 3 [.mp 0 0, sI .i64 x, .mp 2 0, .mp 3 0, .mp 4 0, sI .i64 0] ([jK J c 0 0, .tok, .pc [sP 14, sP r, .sc (.int .u32 a), .sc (.int .u32 b), .sc (.int .i32 nn), .ps tg.length 1 (encT IntKind.u32 tg), .ps ll.length 8 (encL ll), .ps le.length 8 (encL le)], .pc [sP n, .sc (.bool d)], .pc [sP 0, .sc (.bool false)]]) 2 120))
theorem jjt_tree (J : Jd) (c r a b nn : Int) (tg : List Int) (ll : List Ins) (le : List Ins) (n : Int) (d : Bool) (x k n1 e1 p1 n2 e2 p2 e3 p3 : Int) : growF Tryz.prog env jjtOrc 1000000 122 ([AV.mp 0 0, aggI 14 r a b nn tg ll le, hv n d, sI IntKind.i64 x]) (jM J c 0 0) (jjtSc J c r a b nn tg ll le n d x k n1 e1 p1 n2 e2 p2 e3 p3) = jjtTree J c r a b nn tg ll le n d x k n1 e1 p1 n2 e2 p2 e3 p3 := by kernel_rfl

noncomputable def jonOrc : Orc := orcL noCall noLed [] [(92, 0, 0), (92, 0, 1), (92, 0, 2), (92, 0, 3), (92, 0, 4), (92, 0, 5), (92, 0, 6), (92, 0, 9), (92, 0, 7), (92, 0, 8), (92, 0, 10), (92, 0, 11)] []
noncomputable def jonSc (J : Jd) (c op r a b nn : Int) (tg : List Int) (ll : List Ins) (le : List Ins) (n : Int) (d : Bool) (x n1 : Int) (d1 : Bool) (c1 e1 p1 c2 e2 p2 e3 p3 tk tl : Int) (is : Bool) : Sc := (.fork .fin (.fork (.ans 39 (.tup []) ([jK J c1 e1 p1, .tok]) .fin) (.fork (.ans 39 (.tup []) ([jK J c1 e1 p1, .tok]) .fin) (.fork (.ans 93 (.agg [sI .i64 n1, .p (.sc (.bool d1))]) ([jK J c e3 p3, .tok]) (.fork (.ans 39 (.tup []) ([jK J c1 e1 p1, .tok]) (.fork (.ans 39 (.tup []) ([jK J c2 e2 p2, .tok]) .fin) .fin)) (.no .fin))) (.fork (.yes (.ans 122 (.agg [sI .i64 n1, .p (.sc (.bool d1))]) ([jK J c e1 p1, .tok]) .fin)) (.fork (.yes (.ans 122 (.agg [sI .i64 n1, .p (.sc (.bool d1))]) ([jK J c e1 p1, .tok]) .fin)) (.fork (.yes (.ans 122 (.agg [sI .i64 n1, .p (.sc (.bool d1))]) ([jK J c e1 p1, .tok]) .fin)) (.fork (.ans 122 (.agg [sI .i64 n1, .p (.sc (.bool d1))]) ([jK J c e1 p1, .tok]) .fin) (.fork (.yes (.ans 123 (.agg [sI .i64 n1, .p (.sc (.bool d1))]) ([jK J c e1 p1, .tok]) .fin)) (.fork (.ans 123 (.agg [sI .i64 n1, .p (.sc (.bool d1))]) ([jK J c e1 p1, .tok]) .fin) (.ans 124 (.tup []) ([jK J c e3 p3, .tok]) (.ans 125 (.tup [sI .i64 tk, sI .i64 tl, .p (.sc (.bool is))]) ([]) (.ans 93 (.agg [sI .i64 n1, .p (.sc (.bool d1))]) ([jK J c e1 p1, .tok]) .fin)))))))))))))
noncomputable def jonTree (J : Jd) (c op r a b nn : Int) (tg : List Int) (ll : List Ins) (le : List Ins) (n : Int) (d : Bool) (x n1 : Int) (d1 : Bool) (c1 e1 p1 c2 e2 p2 e3 p3 tk tl : Int) (is : Bool) : Tree :=
 (.test (op == 0)
 (.out (.ret (.agg [sI .i64 0, sB true]) [jK J c 0 0, .tok]))
 (.test (op == 2)
 (.call ⟨39, [.mp 0 0, .p (.ps ll.length 8 (encL ll)), sI .i64 r, sI .i64 r, sI .i64 x], [jK J c 0 0, .tok], .tup [], [jK J c1 e1 p1, .tok]⟩
 (.out (.ret (.agg [sI .i64 (IntKind.i64.wrap (n + r)), .p (.sc (.bool d))]) [jK J c1 e1 p1, .tok])))
 (.test (op == 3)
 (.call ⟨39, [.mp 0 0, .p (.ps ll.length 8 (encL ll)), sI .i64 0, sI .i64 r, sI .i64 x], [jK J c 0 0, .tok], .tup [], [jK J c1 e1 p1, .tok]⟩
 (.out (.ret (.agg [sI .i64 (IntKind.i64.wrap (n + r)), .p (.sc (.bool d))]) [jK J c1 e1 p1, .tok])))
 (.test (op == 4)
 (.call ⟨93, [.mp 0 0, .agg [sI .i64 n, .p (.sc (.bool d))], sI .i64 1, sI .i64 x], [jK J c 0 0, .tok], .agg [sI .i64 n1, .p (.sc (.bool d1))], [jK J c e3 p3, .tok]⟩
 (.test (e3 == 0)
 (.call ⟨39, [.mp 0 0, .p (.ps ll.length 8 (encL ll)), sI .i64 r, sI .i64 r, sI .i64 x], [jK J c e3 p3, .tok], .tup [], [jK J c1 e1 p1, .tok]⟩
 (.test (e1 == 0)
 (.call ⟨39, [.mp 0 0, .p (.ps le.length 8 (encL le)), sI .i64 r, sI .i64 r, sI .i64 x], [jK J c1 e1 p1, .tok], .tup [], [jK J c2 e2 p2, .tok]⟩
 (.out (.ret (.agg [sI .i64 (IntKind.i64.wrap (n1 + r)), .p (.sc (.bool d1))]) [jK J c2 e2 p2, .tok])))
 (.out (.ret (.agg [sI .i64 (IntKind.i64.wrap (n1 + r)), .p (.sc (.bool d1))]) [jK J c1 e1 p1, .tok]))))
 (.must (!(e3 == 0))
 (.out (.ret (.agg [sI .i64 (IntKind.i64.wrap (n1 + r)), .p (.sc (.bool d1))]) [jK J c e3 p3, .tok])))))
 (.test (op == 12)
 (.must (op == 12)
 (.call ⟨122, [.mp 0 0, .agg [sI .i64 op, sI .i64 r, sI .u32 a, sI .u32 b, sI .i32 nn, .p (.ps tg.length 1 (encT IntKind.u32 tg)), .p (.ps ll.length 8 (encL ll)), .p (.ps le.length 8 (encL le))], .agg [sI .i64 n, .p (.sc (.bool d))], sI .i64 x], [jK J c 0 0, .tok], .agg [sI .i64 n1, .p (.sc (.bool d1))], [jK J c e1 p1, .tok]⟩
 (.out (.ret (.agg [sI .i64 n1, .p (.sc (.bool d1))]) [jK J c e1 p1, .tok]))))
 (.test (op == 13)
 (.must (op == 13)
 (.call ⟨122, [.mp 0 0, .agg [sI .i64 op, sI .i64 r, sI .u32 a, sI .u32 b, sI .i32 nn, .p (.ps tg.length 1 (encT IntKind.u32 tg)), .p (.ps ll.length 8 (encL ll)), .p (.ps le.length 8 (encL le))], .agg [sI .i64 n, .p (.sc (.bool d))], sI .i64 x], [jK J c 0 0, .tok], .agg [sI .i64 n1, .p (.sc (.bool d1))], [jK J c e1 p1, .tok]⟩
 (.out (.ret (.agg [sI .i64 n1, .p (.sc (.bool d1))]) [jK J c e1 p1, .tok]))))
 (.test (op == 14)
 (.must (op == 14)
 (.call ⟨122, [.mp 0 0, .agg [sI .i64 op, sI .i64 r, sI .u32 a, sI .u32 b, sI .i32 nn, .p (.ps tg.length 1 (encT IntKind.u32 tg)), .p (.ps ll.length 8 (encL ll)), .p (.ps le.length 8 (encL le))], .agg [sI .i64 n, .p (.sc (.bool d))], sI .i64 x], [jK J c 0 0, .tok], .agg [sI .i64 n1, .p (.sc (.bool d1))], [jK J c e1 p1, .tok]⟩
 (.out (.ret (.agg [sI .i64 n1, .p (.sc (.bool d1))]) [jK J c e1 p1, .tok]))))
 (.test (op == 15)
 (.call ⟨122, [.mp 0 0, .agg [sI .i64 op, sI .i64 r, sI .u32 a, sI .u32 b, sI .i32 nn, .p (.ps tg.length 1 (encT IntKind.u32 tg)), .p (.ps ll.length 8 (encL ll)), .p (.ps le.length 8 (encL le))], .agg [sI .i64 n, .p (.sc (.bool d))], sI .i64 x], [jK J c 0 0, .tok], .agg [sI .i64 n1, .p (.sc (.bool d1))], [jK J c e1 p1, .tok]⟩
 (.out (.ret (.agg [sI .i64 n1, .p (.sc (.bool d1))]) [jK J c e1 p1, .tok])))
 (.test (op == 16)
 (.must (op == 16)
 (.call ⟨123, [.mp 0 0, .agg [sI .i64 op, sI .i64 r, sI .u32 a, sI .u32 b, sI .i32 nn, .p (.ps tg.length 1 (encT IntKind.u32 tg)), .p (.ps ll.length 8 (encL ll)), .p (.ps le.length 8 (encL le))], .agg [sI .i64 n, .p (.sc (.bool d))], sI .i64 x], [jK J c 0 0, .tok], .agg [sI .i64 n1, .p (.sc (.bool d1))], [jK J c e1 p1, .tok]⟩
 (.out (.ret (.agg [sI .i64 n1, .p (.sc (.bool d1))]) [jK J c e1 p1, .tok]))))
 (.test (op == 17)
 (.call ⟨123, [.mp 0 0, .agg [sI .i64 op, sI .i64 r, sI .u32 a, sI .u32 b, sI .i32 nn, .p (.ps tg.length 1 (encT IntKind.u32 tg)), .p (.ps ll.length 8 (encL ll)), .p (.ps le.length 8 (encL le))], .agg [sI .i64 n, .p (.sc (.bool d))], sI .i64 x], [jK J c 0 0, .tok], .agg [sI .i64 n1, .p (.sc (.bool d1))], [jK J c e1 p1, .tok]⟩
 (.out (.ret (.agg [sI .i64 n1, .p (.sc (.bool d1))]) [jK J c e1 p1, .tok])))
 (.call ⟨124, [.mp 0 0, .agg [sI .i64 op, sI .i64 r, sI .u32 a, sI .u32 b, sI .i32 nn, .p (.ps tg.length 1 (encT IntKind.u32 tg)), .p (.ps ll.length 8 (encL ll)), .p (.ps le.length 8 (encL le))], sI .i64 x], [jK J c 0 0, .tok], .tup [], [jK J c e3 p3, .tok]⟩
 (.call ⟨125, [sI .i64 op], [], .tup [sI .i64 tk, sI .i64 tl, .p (.sc (.bool is))], []⟩
 (.call ⟨93, [.mp 0 0, .agg [sI .i64 n, .p (.sc (.bool d))], sI .i64 tk, sI .i64 x], [jK J c e3 p3, .tok], .agg [sI .i64 n1, .p (.sc (.bool d1))], [jK J c e1 p1, .tok]⟩
 (.out (.ret (.agg [sI .i64 (IntKind.i64.wrap (n1 + tl)), .p (.sc (.bool d1))]) [jK J c e1 p1, .tok])))))))))))))))
theorem jon_tree (J : Jd) (c op r a b nn : Int) (tg : List Int) (ll : List Ins) (le : List Ins) (n : Int) (d : Bool) (x n1 : Int) (d1 : Bool) (c1 e1 p1 c2 e2 p2 e3 p3 tk tl : Int) (is : Bool) : growF Tryz.prog env jonOrc 1000000 92 ([AV.mp 0 0, aggI op r a b nn tg ll le, hv n d, sI IntKind.i64 x]) (jM J c 0 0) (jonSc J c op r a b nn tg ll le n d x n1 d1 c1 e1 p1 c2 e2 p2 e3 p3 tk tl is) = jonTree J c op r a b nn tg ll le n d x n1 d1 c1 e1 p1 c2 e2 p2 e3 p3 tk tl is := by kernel_rfl

noncomputable def jlsOrc : Orc := orcL noCall noLed [(39, 0)] [] [(39, 2, 3), (39, 2, 6)]
def jlsSc : Sc := .fin
noncomputable def jlsTree (J : Jd) (c : Int) (l : List Ins) (lab rs x : Int) : Tree :=
 (.must (((0 + J.L.length) * 8).ble lim && (0 + J.L.length).ble lim && true)
 (.must (((0 + J.L.length + 1) * 8).ble lim && (0 + J.L.length + 1).ble lim && true)
 (.at (bodyCfg Tryz.prog env 39 0 [.mp 0 0, .p (.ps l.length 8 (encL l)), sI .i64 rs, sI .i64 x, .os (some 1) J.L.length 1 (jlC J.L), .mp 2 0, sI .i64 0] ([.ac (cellsD J.M ++ [sI .i64 J.tP, sI .i64 J.tR, sI .i64 J.own, .os (some 3) (0 + J.L.length + 1) 1 ([] ++ jlC J.L ++ [sP lab]), sI .i64 c, sI .i64 0, sI .i64 0]), .tok, .pc [sP 0, .sc (.bool false)], .tok]) 2 78))))
theorem jls_tree (J : Jd) (c : Int) (l : List Ins) (lab rs x : Int) : growF Tryz.prog env jlsOrc 1000000 39 ([AV.mp 0 0, aL l, sI IntKind.i64 lab, sI IntKind.i64 rs, sI IntKind.i64 x]) (jM J c 0 0) jlsSc = jlsTree J c l lab rs x := by kernel_rfl

noncomputable def jls0Orc : Orc := orcL noCall noLed [(39, 0)] [] []
def jls0Sc : Sc := .fin
noncomputable def jls0Tree (J : Jd) (c : Int) (l : List Ins) (lab rs x : Int) : Tree :=
 (.at (bodyCfg Tryz.prog env 39 0 [.mp 0 0, .p (.ps l.length 8 (encL l)), sI .i64 rs, sI .i64 x, .os none 0 0 [], .mp 1 0, sI .i64 0] ([.ac (cellsD J.M ++ [sI .i64 J.tP, sI .i64 J.tR, sI .i64 J.own, .os (some 2) 1 1 [sP lab], sI .i64 c, sI .i64 0, sI .i64 0]), .pc [sP 0, .sc (.bool false)], .tok]) 1 78))
theorem jls0_tree (J : Jd) (c : Int) (l : List Ins) (lab rs x : Int) : growF Tryz.prog env jls0Orc 1000000 39 ([AV.mp 0 0, aL l, sI IntKind.i64 lab, sI IntKind.i64 rs, sI IntKind.i64 x]) ([Blk.ac (J.M.cells ++ [sI IntKind.i64 J.tP, sI IntKind.i64 J.tR, sI IntKind.i64 J.own, AV.os Option.none 0 0 [], sI IntKind.i64 c, sI IntKind.i64 0, sI IntKind.i64 0])]) jls0Sc = jls0Tree J c l lab rs x := by kernel_rfl

noncomputable def jloOrc (J : Jd) (W : List Nat) (l : List Ins) (i : Nat) (rs x n : Int) (d : Bool) (c e p n1 : Int) (d1 : Bool) (c1 e1 p1 n2 e2 p2 op r a b nn : Int) (tg : List Int) (ll : List Ins) (le : List Ins) : Orc := orcS noCall noLed [(39, 0)] [(39, 5, 5), (39, 0, 1), (39, 0, 2), (39, 0, 3), (94, 0, 0)] [(39, 0, 2)] (jtS J W l i rs x n d c e p n1 d1 c1 e1 p1 n2 e2 p2 op r a b nn tg ll le)
noncomputable def jloSc (J : Jd) (W : List Nat) (l : List Ins) (i : Nat) (rs x n : Int) (d : Bool) (c e p n1 : Int) (d1 : Bool) (c1 e1 p1 n2 e2 p2 op r a b nn : Int) (tg : List Int) (ll : List Ins) (le : List Ins) : Sc := (.fork (.fork (.led 39 7 (jtQ J W l i rs x n d c e p n1 d1 c1 e1 p1 n2 e2 p2 op r a b nn tg ll le 0) .fin) (.no .fin)) (.lit (.fork (.ans 93 (.agg [sI .i64 n2, .p (.sc (.bool d))]) ([jK J c e2 p2, .tok]) .fin) .fin)))
noncomputable def jloTree (J : Jd) (W : List Nat) (l : List Ins) (i : Nat) (rs x n : Int) (d : Bool) (c e p n1 : Int) (d1 : Bool) (c1 e1 p1 n2 e2 p2 op r a b nn : Int) (tg : List Int) (ll : List Ins) (le : List Ins) : Tree :=
 (.test (decide ((↑i : Int) < (↑l.length : Int)))
 (.test (e == 0)
 (.call ⟨92, [.mp 0 0, .agg [sI .i64 (pvInt ((encL l).getD ((↑i : Int).toNat * 8) PV.bad)), sI .i64 (pvInt ((encL l).getD ((↑i : Int).toNat * 8 + 1) PV.bad)), sI .u32 (pvInt ((encL l).getD ((↑i : Int).toNat * 8 + 1 + 1) PV.bad)), sI .u32 (pvInt ((encL l).getD ((↑i : Int).toNat * 8 + 1 + 1 + 1) PV.bad)), sI .i32 (pvInt ((encL l).getD ((↑i : Int).toNat * 8 + 1 + 1 + 1 + 1) PV.bad)), .p (.ps (psLen ((encL l).getD ((↑i : Int).toNat * 8 + 1 + 1 + 1 + 1 + 1) PV.bad)) (psSz ((encL l).getD ((↑i : Int).toNat * 8 + 1 + 1 + 1 + 1 + 1) PV.bad)) (psCells ((encL l).getD ((↑i : Int).toNat * 8 + 1 + 1 + 1 + 1 + 1) PV.bad))), .p (.ps (psLen ((encL l).getD ((↑i : Int).toNat * 8 + 1 + 1 + 1 + 1 + 1 + 1) PV.bad)) (psSz ((encL l).getD ((↑i : Int).toNat * 8 + 1 + 1 + 1 + 1 + 1 + 1) PV.bad)) (psCells ((encL l).getD ((↑i : Int).toNat * 8 + 1 + 1 + 1 + 1 + 1 + 1) PV.bad))), .p (.ps (psLen ((encL l).getD ((↑i : Int).toNat * 8 + 1 + 1 + 1 + 1 + 1 + 1 + 1) PV.bad)) (psSz ((encL l).getD ((↑i : Int).toNat * 8 + 1 + 1 + 1 + 1 + 1 + 1 + 1) PV.bad)) (psCells ((encL l).getD ((↑i : Int).toNat * 8 + 1 + 1 + 1 + 1 + 1 + 1 + 1) PV.bad)))], .agg [sI .i64 n, .p (.sc (.bool d))], sI .i64 (IntKind.i64.wrap (c + 1))], [jK J (IntKind.i64.wrap (c + 1)) e p, .tok], .agg [sI .i64 n1, .p (.sc (.bool d1))], [jK J c1 e1 p1, .tok]⟩
 (.must (inB (↑i : Int) l.length && true && true && (isInt IntKind.i64 ((encL l).getD ((↑i : Int).toNat * 8) PV.bad) && (isInt IntKind.i64 ((encL l).getD ((↑i : Int).toNat * 8 + 1) PV.bad) && (isInt IntKind.u32 ((encL l).getD ((↑i : Int).toNat * 8 + 1 + 1) PV.bad) && (isInt IntKind.u32 ((encL l).getD ((↑i : Int).toNat * 8 + 1 + 1 + 1) PV.bad) && (isInt IntKind.i32 ((encL l).getD ((↑i : Int).toNat * 8 + 1 + 1 + 1 + 1) PV.bad) && (isPs ((encL l).getD ((↑i : Int).toNat * 8 + 1 + 1 + 1 + 1 + 1) PV.bad) && (isPs ((encL l).getD ((↑i : Int).toNat * 8 + 1 + 1 + 1 + 1 + 1 + 1) PV.bad) && (isPs ((encL l).getD ((↑i : Int).toNat * 8 + 1 + 1 + 1 + 1 + 1 + 1 + 1) PV.bad) && true))))))) && true && true) && true)
 (.need (sI .i64 (IntKind.i64.wrap ((↑i : Int) + 1)) = sI IntKind.i64 (↑(i + 1) : Int))
 (.at (bodyCfg Tryz.prog env 39 0 [.mp 0 0, .p (.ps l.length 8 (encL l)), sI .i64 rs, sI .i64 x, .os (some 1) W.length 1 (jlC W), .mp 2 0, sI .i64 (↑(i + 1) : Int)] ([.ac (cellsD J.M ++ [sI .i64 J.tP, sI .i64 J.tR, sI .i64 J.own, .os (some 3) J.L.length 1 (jlC J.L), sI .i64 c1, sI .i64 e1, sI .i64 p1]), .tok, .pc [sP n1, .sc (.bool d1)], .tok]) 2 78)))))
 (.must (!(e == 0))
 (.out (.ret (.tup []) [.ac (cellsD J.M ++ [sI .i64 J.tP, sI .i64 J.tR, sI .i64 J.own, .os (some 1) W.length 1 (jlC W), sI .i64 c, sI .i64 e, sI .i64 p]), .tok]))))
 (.test (e == 0)
 (.call ⟨93, [.mp 0 0, .agg [sI .i64 n, .p (.sc (.bool d))], sI .i64 rs, sI .i64 x], [jK J c e p, .tok], .agg [sI .i64 n2, .p (.sc (.bool d))], [jK J c e2 p2, .tok]⟩
 (.test (decide (n2 > 0))
 (.test (e2 == 0)
 (.out (.ret (.tup []) [.ac (cellsD J.M ++ [sI .i64 J.tP, sI .i64 J.tR, sI .i64 J.own, .os (some 1) W.length 1 (jlC W), sI .i64 c, sI .i64 201, sI .i64 x]), .tok]))
 (.out (.ret (.tup []) [.ac (cellsD J.M ++ [sI .i64 J.tP, sI .i64 J.tR, sI .i64 J.own, .os (some 1) W.length 1 (jlC W), sI .i64 c, sI .i64 e2, sI .i64 p2]), .tok])))
 (.out (.ret (.tup []) [.ac (cellsD J.M ++ [sI .i64 J.tP, sI .i64 J.tR, sI .i64 J.own, .os (some 1) W.length 1 (jlC W), sI .i64 c, sI .i64 e2, sI .i64 p2]), .tok]))))
 (.out (.ret (.tup []) [.ac (cellsD J.M ++ [sI .i64 J.tP, sI .i64 J.tR, sI .i64 J.own, .os (some 1) W.length 1 (jlC W), sI .i64 c, sI .i64 e, sI .i64 p]), .tok]))))
theorem jlo_tree (J : Jd) (W : List Nat) (l : List Ins) (i : Nat) (rs x n : Int) (d : Bool) (c e p n1 : Int) (d1 : Bool) (c1 e1 p1 n2 e2 p2 op r a b nn : Int) (tg : List Int) (ll : List Ins) (le : List Ins) : grow Tryz.prog env (jloOrc J W l i rs x n d c e p n1 d1 c1 e1 p1 n2 e2 p2 op r a b nn tg ll le) 1000000 true (bodyCfg Tryz.prog env 39 0 ([AV.mp 0 0, aL l, sI IntKind.i64 rs, sI IntKind.i64 x, wos W, AV.mp 2 0, sI IntKind.i64 (↑i : Int)]) ([jB3 J 3 c e p, Blk.tok, Blk.pc [PV.sc (Value.int IntKind.i64 n), PV.sc (Value.bool d)], Blk.tok]) 2 78) (jloSc J W l i rs x n d c e p n1 d1 c1 e1 p1 n2 e2 p2 op r a b nn tg ll le) atEnd = jloTree J W l i rs x n d c e p n1 d1 c1 e1 p1 n2 e2 p2 op r a b nn tg ll le := by kernel_rfl

noncomputable def jlzOrc (J : Jd) (W : List Nat) (l : List Ins) (i : Nat) (rs x n : Int) (d : Bool) (c e p n1 : Int) (d1 : Bool) (c1 e1 p1 n2 e2 p2 op r a b nn : Int) (tg : List Int) (ll : List Ins) (le : List Ins) : Orc := orcS noCall noLed [(39, 0)] [(39, 5, 5), (39, 0, 1), (39, 0, 2), (39, 0, 3), (94, 0, 0)] [(39, 0, 2)] (jtS J W l i rs x n d c e p n1 d1 c1 e1 p1 n2 e2 p2 op r a b nn tg ll le)
noncomputable def jlzSc (J : Jd) (W : List Nat) (l : List Ins) (i : Nat) (rs x n : Int) (d : Bool) (c e p n1 : Int) (d1 : Bool) (c1 e1 p1 n2 e2 p2 op r a b nn : Int) (tg : List Int) (ll : List Ins) (le : List Ins) : Sc := (.fork (.fork (.led 39 7 (jtQ J W l i rs x n d c e p n1 d1 c1 e1 p1 n2 e2 p2 op r a b nn tg ll le 0) .fin) (.no .fin)) (.lit (.fork (.ans 93 (.agg [sI .i64 n2, .p (.sc (.bool d))]) ([jK J c e2 p2, .tok]) .fin) .fin)))
noncomputable def jlzTree (J : Jd) (W : List Nat) (l : List Ins) (i : Nat) (rs x n : Int) (d : Bool) (c e p n1 : Int) (d1 : Bool) (c1 e1 p1 n2 e2 p2 op r a b nn : Int) (tg : List Int) (ll : List Ins) (le : List Ins) : Tree :=
 (.test (decide ((↑i : Int) < (↑l.length : Int)))
 (.test (e == 0)
 (.call ⟨92, [.mp 0 0, .agg [sI .i64 (pvInt ((encL l).getD ((↑i : Int).toNat * 8) PV.bad)), sI .i64 (pvInt ((encL l).getD ((↑i : Int).toNat * 8 + 1) PV.bad)), sI .u32 (pvInt ((encL l).getD ((↑i : Int).toNat * 8 + 1 + 1) PV.bad)), sI .u32 (pvInt ((encL l).getD ((↑i : Int).toNat * 8 + 1 + 1 + 1) PV.bad)), sI .i32 (pvInt ((encL l).getD ((↑i : Int).toNat * 8 + 1 + 1 + 1 + 1) PV.bad)), .p (.ps (psLen ((encL l).getD ((↑i : Int).toNat * 8 + 1 + 1 + 1 + 1 + 1) PV.bad)) (psSz ((encL l).getD ((↑i : Int).toNat * 8 + 1 + 1 + 1 + 1 + 1) PV.bad)) (psCells ((encL l).getD ((↑i : Int).toNat * 8 + 1 + 1 + 1 + 1 + 1) PV.bad))), .p (.ps (psLen ((encL l).getD ((↑i : Int).toNat * 8 + 1 + 1 + 1 + 1 + 1 + 1) PV.bad)) (psSz ((encL l).getD ((↑i : Int).toNat * 8 + 1 + 1 + 1 + 1 + 1 + 1) PV.bad)) (psCells ((encL l).getD ((↑i : Int).toNat * 8 + 1 + 1 + 1 + 1 + 1 + 1) PV.bad))), .p (.ps (psLen ((encL l).getD ((↑i : Int).toNat * 8 + 1 + 1 + 1 + 1 + 1 + 1 + 1) PV.bad)) (psSz ((encL l).getD ((↑i : Int).toNat * 8 + 1 + 1 + 1 + 1 + 1 + 1 + 1) PV.bad)) (psCells ((encL l).getD ((↑i : Int).toNat * 8 + 1 + 1 + 1 + 1 + 1 + 1 + 1) PV.bad)))], .agg [sI .i64 n, .p (.sc (.bool d))], sI .i64 (IntKind.i64.wrap (c + 1))], [jK J (IntKind.i64.wrap (c + 1)) e p, .tok], .agg [sI .i64 n1, .p (.sc (.bool d1))], [jK J c1 e1 p1, .tok]⟩
 (.must (inB (↑i : Int) l.length && true && true && (isInt IntKind.i64 ((encL l).getD ((↑i : Int).toNat * 8) PV.bad) && (isInt IntKind.i64 ((encL l).getD ((↑i : Int).toNat * 8 + 1) PV.bad) && (isInt IntKind.u32 ((encL l).getD ((↑i : Int).toNat * 8 + 1 + 1) PV.bad) && (isInt IntKind.u32 ((encL l).getD ((↑i : Int).toNat * 8 + 1 + 1 + 1) PV.bad) && (isInt IntKind.i32 ((encL l).getD ((↑i : Int).toNat * 8 + 1 + 1 + 1 + 1) PV.bad) && (isPs ((encL l).getD ((↑i : Int).toNat * 8 + 1 + 1 + 1 + 1 + 1) PV.bad) && (isPs ((encL l).getD ((↑i : Int).toNat * 8 + 1 + 1 + 1 + 1 + 1 + 1) PV.bad) && (isPs ((encL l).getD ((↑i : Int).toNat * 8 + 1 + 1 + 1 + 1 + 1 + 1 + 1) PV.bad) && true))))))) && true && true) && true)
 (.need (sI .i64 (IntKind.i64.wrap ((↑i : Int) + 1)) = sI IntKind.i64 (↑(i + 1) : Int))
 (.at (bodyCfg Tryz.prog env 39 0 [.mp 0 0, .p (.ps l.length 8 (encL l)), sI .i64 rs, sI .i64 x, .os none 0 0 [], .mp 1 0, sI .i64 (↑(i + 1) : Int)] ([.ac (cellsD J.M ++ [sI .i64 J.tP, sI .i64 J.tR, sI .i64 J.own, .os (some 2) J.L.length 1 (jlC J.L), sI .i64 c1, sI .i64 e1, sI .i64 p1]), .pc [sP n1, .sc (.bool d1)], .tok]) 1 78)))))
 (.must (!(e == 0))
 (.out (.ret (.tup []) [.ac (cellsD J.M ++ [sI .i64 J.tP, sI .i64 J.tR, sI .i64 J.own, .os none 0 0 [], sI .i64 c, sI .i64 e, sI .i64 p])]))))
 (.test (e == 0)
 (.call ⟨93, [.mp 0 0, .agg [sI .i64 n, .p (.sc (.bool d))], sI .i64 rs, sI .i64 x], [jK J c e p, .tok], .agg [sI .i64 n2, .p (.sc (.bool d))], [jK J c e2 p2, .tok]⟩
 (.test (decide (n2 > 0))
 (.test (e2 == 0)
 (.out (.ret (.tup []) [.ac (cellsD J.M ++ [sI .i64 J.tP, sI .i64 J.tR, sI .i64 J.own, .os none 0 0 [], sI .i64 c, sI .i64 201, sI .i64 x])]))
 (.out (.ret (.tup []) [.ac (cellsD J.M ++ [sI .i64 J.tP, sI .i64 J.tR, sI .i64 J.own, .os none 0 0 [], sI .i64 c, sI .i64 e2, sI .i64 p2])])))
 (.out (.ret (.tup []) [.ac (cellsD J.M ++ [sI .i64 J.tP, sI .i64 J.tR, sI .i64 J.own, .os none 0 0 [], sI .i64 c, sI .i64 e2, sI .i64 p2])]))))
 (.out (.ret (.tup []) [.ac (cellsD J.M ++ [sI .i64 J.tP, sI .i64 J.tR, sI .i64 J.own, .os none 0 0 [], sI .i64 c, sI .i64 e, sI .i64 p])]))))
theorem jlz_tree (J : Jd) (W : List Nat) (l : List Ins) (i : Nat) (rs x n : Int) (d : Bool) (c e p n1 : Int) (d1 : Bool) (c1 e1 p1 n2 e2 p2 op r a b nn : Int) (tg : List Int) (ll : List Ins) (le : List Ins) : grow Tryz.prog env (jlzOrc J W l i rs x n d c e p n1 d1 c1 e1 p1 n2 e2 p2 op r a b nn tg ll le) 1000000 true (bodyCfg Tryz.prog env 39 0 ([AV.mp 0 0, aL l, sI IntKind.i64 rs, sI IntKind.i64 x, AV.os Option.none 0 0 [], AV.mp 1 0, sI IntKind.i64 (↑i : Int)]) ([jB3 J 2 c e p, Blk.pc [PV.sc (Value.int IntKind.i64 n), PV.sc (Value.bool d)], Blk.tok]) 1 78) (jlzSc J W l i rs x n d c e p n1 d1 c1 e1 p1 n2 e2 p2 op r a b nn tg ll le) atEnd = jlzTree J W l i rs x n d c e p n1 d1 c1 e1 p1 n2 e2 p2 op r a b nn tg ll le := by kernel_rfl

noncomputable def jalOrc : Orc := orcL noCall noLed [] [(146, 0, 0), (146, 0, 1), (146, 0, 2), (146, 0, 4), (146, 0, 3), (146, 0, 5), (146, 0, 7), (146, 0, 6)] []
def jalSc : Sc := (.fork (.yes .fin) (.fork .fin (.fork (.yes .fin) (.fork (.yes .fin) (.fork .fin (.fork (.yes .fin) (.fork (.yes .fin) .fin)))))))
noncomputable def jalTree (op : Int) : Tree :=
 (.test (op == 40)
 (.must (op == 40)
 (.out (.ret (.tup [sI .u32 2, sB true]) [])))
 (.test (op == 54)
 (.out (.ret (.tup [sI .u32 2, sB true]) []))
 (.test (op == 46)
 (.must (op == 46)
 (.out (.ret (.tup [sI .u32 1, sB true]) [])))
 (.test (op == 47)
 (.must (op == 47)
 (.out (.ret (.tup [sI .u32 1, sB true]) [])))
 (.test (op == 59)
 (.out (.ret (.tup [sI .u32 1, sB true]) []))
 (.test (op == 44)
 (.must (op == 44)
 (.out (.ret (.tup [sI .u32 0, sB true]) [])))
 (.test (op == 45)
 (.must (op == 45)
 (.out (.ret (.tup [sI .u32 0, sB true]) [])))
 (.test (op == 58)
 (.out (.ret (.tup [sI .u32 0, sB true]) []))
 (.out (.ret (.tup [sI .u32 0, sB false]) []))))))))))
theorem jal_tree (op : Int) : growF Tryz.prog env jalOrc 1000000 146 ([sI IntKind.i64 op]) ([]) jalSc = jalTree op := by kernel_rfl

noncomputable def ty2Orc (M : Md) (a : Nat) (T P Q : Int) : Orc := orcS noCall noLed [] [(57, 0, 0), (57, 7, 3), (57, 0, 2), (57, 0, 1)] [(57, 4, 3), (57, 4, 5), (57, 9, 3), (57, 9, 4), (57, 6, 8), (57, 6, 10)] (ty2S M a T P Q)
def ty2Sc : Sc := (.fork (.fork (.lit .fin) .fin) (.fork (.fork (.lit .fin) .fin) (.lit (.lit .fin))))
noncomputable def ty2Tree (M : Md) (a : Nat) (T P Q : Int) : Tree :=
 (.test (decide (IntKind.i64.wrap (↑a : Int) < (↑M.imN : Int)))
 (.must (inB (↑a : Int) M.imN && true && true)
 (.must (isInt IntKind.i64 (M.imC.getD ((↑a : Int).toNat * 3 + 2) PV.bad) && true)
 (.need (sI .i64 (pvInt (M.imC.getD ((↑a : Int).toNat * 3 + 2) PV.bad)) = sI IntKind.i64 T)
 (.test (decide (T < 0))
 (.out (.ret (.tup [.agg [sI .i64 0, sI .i64 0], sB false]) []))
 (.test (decide (T ≥ (↑M.tyN : Int)))
 (.out (.ret (.tup [.agg [sI .i64 0, sI .i64 0], sB false]) []))
 (.must (inB T M.tyN && true && true)
 (.must (isInt IntKind.i64 (M.tyC.getD (T.toNat * 2) PV.bad) && (isInt IntKind.i64 (M.tyC.getD (T.toNat * 2 + 1) PV.bad) && true) && true)
 (.need (AV.agg [sI .i64 (pvInt (M.tyC.getD (T.toNat * 2) PV.bad)), sI .i64 (pvInt (M.tyC.getD (T.toNat * 2 + 1) PV.bad))] = AV.agg [sI IntKind.i64 P, sI IntKind.i64 Q])
 (.out (.ret (.tup [.agg [sI .i64 P, sI .i64 Q], sB true]) []))))))))))
 (.test (decide (IntKind.i64.wrap (↑a : Int) < IntKind.i64.wrap ((↑M.imN : Int) + (↑M.fnN : Int))))
 (.must (inB (IntKind.i64.wrap (IntKind.i64.wrap (↑a : Int) - (↑M.imN : Int))) M.fnN && true && true)
 (.must (isInt IntKind.i64 (M.fnC.getD ((IntKind.i64.wrap (IntKind.i64.wrap (↑a : Int) - (↑M.imN : Int))).toNat * 3 + 0) PV.bad) && true)
 (.need (sI .i64 (pvInt (M.fnC.getD ((IntKind.i64.wrap (IntKind.i64.wrap (↑a : Int) - (↑M.imN : Int))).toNat * 3 + 0) PV.bad)) = sI IntKind.i64 T)
 (.test (decide (T < 0))
 (.out (.ret (.tup [.agg [sI .i64 0, sI .i64 0], sB false]) []))
 (.test (decide (T ≥ (↑M.tyN : Int)))
 (.out (.ret (.tup [.agg [sI .i64 0, sI .i64 0], sB false]) []))
 (.must (inB T M.tyN && true && true)
 (.must (isInt IntKind.i64 (M.tyC.getD (T.toNat * 2) PV.bad) && (isInt IntKind.i64 (M.tyC.getD (T.toNat * 2 + 1) PV.bad) && true) && true)
 (.need (AV.agg [sI .i64 (pvInt (M.tyC.getD (T.toNat * 2) PV.bad)), sI .i64 (pvInt (M.tyC.getD (T.toNat * 2 + 1) PV.bad))] = AV.agg [sI IntKind.i64 P, sI IntKind.i64 Q])
 (.out (.ret (.tup [.agg [sI .i64 P, sI .i64 Q], sB true]) []))))))))))
 (.out (.ret (.tup [.agg [sI .i64 0, sI .i64 0], sB false]) []))))
theorem ty2_tree (M : Md) (a : Nat) (T P Q : Int) : growF Tryz.prog env (ty2Orc M a T P Q) 1000000 57 ([AV.agg M.cells, sI IntKind.u32 (↑a : Int)]) ([]) ty2Sc = ty2Tree M a T P Q := by kernel_rfl

end Go.Proofs.YtgbphddecpjlhaaGreatDoor.N
end

section
set_option linter.unusedSimpArgs false
set_option linter.unusedVariables false
namespace Go.Proofs.YtgbphddecpjlhaaGreatDoor.N
open Go Go.Am

def fe (e w : Int) : Int := if e = 0 then w else e
def fp (e p x : Int) : Int := if e = 0 then x else p
theorem fe0 (w : Int) : fe 0 w = w := by unfold fe; rw [if_pos rfl]
theorem fp0 (p x : Int) : fp 0 p x = x := by unfold fp; rw [if_pos rfl]
theorem feE {e : Int} (h : e ≠ 0) (w : Int) : fe e w = e := by unfold fe; rw [if_neg h]
theorem fpE {e : Int} (h : e ≠ 0) (p x : Int) : fp e p x = p := by unfold fp; rw [if_neg h]

structure JOk (J : Jd) (V : VEnv) : Prop where
  v : VOk ⟨J.M, J.tP, J.tR, J.own⟩ V
  ty : ∀ a : Nat, a < 4294967296 → match V.ty a with
    | some (p, r) => p ≤ 1000000000 ∧ Does Tryz.prog env 57 [.agg J.M.cells, sI .u32 a] [] (.tup [.agg [sI .i64 p, sI .i64 r], sB true]) []
    | none => Does Tryz.prog env 57 [.agg J.M.cells, sI .u32 a] [] (.tup [.agg [sI .i64 0, sI .i64 0], sB false]) []
  indP : ∀ (a : Int) (p r : Nat), V.ind a = some (p, r) → p ≤ 1000000000
  lab : ∀ k ∈ J.L, k ≤ 1
  len : J.L.length ≤ 1000000000

section
variable {J : Jd} {V : VEnv}

theorem jl_some {a k : Nat} (hL : J.L.length ≤ 1000000000) (h : J.L.reverse[a]? = some k) (c e p x : Int) : Does Tryz.prog env 145 [.mp 0 0, sI .u32 a, sI .i64 x] (jM J c e p) (sI .i64 k) (jM J c e p) := by
  refine does_of_tree names (jlb_tree J c e p a x) ?_
  obtain ⟨h1, h2⟩ := List.getElem?_eq_some_iff.1 h
  rw [List.length_reverse] at h1
  have w1 : IntKind.i64.wrap (a : Int) = a := i64In (by omega) (by omega)
  have w2 : IntKind.i64.wrap ((J.L.length : Int) - 1) = J.L.length - 1 := i64In (by omega) (by omega)
  have w3 : IntKind.i64.wrap ((J.L.length : Int) - 1 - a) = J.L.length - 1 - a := i64In (by omega) (by omega)
  have t : ((J.L.length : Int) - 1 - a).toNat = J.L.length - 1 - a := by omega
  have g : (jlC J.L).getD (J.L.length - 1 - a) .bad = .sc (.int .i64 k) := by
    rw [List.getD_eq_getElem?_getD, List.getElem?_map, List.getElem?_eq_getElem (by omega)]
    rw [List.getElem_reverse] at h2
    simp only [Option.map_some, Option.getD_some, h2]
  have d1 : decide ((a : Int) ≥ J.L.length) = false := by simp; omega
  simp only [jlbTree, Tree.ok, w1, w2, w3, t, Nat.mul_one, g, d1, isInt, pvInt, ik, inB, Bool.false_eq_true, Bool.true_eq_false, false_implies, true_implies, true_and, and_true, Bool.and_true, Bool.and_eq_true, decide_eq_true_eq]
  exact ⟨by omega, rfl⟩

theorem jl_none {a : Nat} (ha : a < 4294967296) (h : J.L.reverse[a]? = none) (c e p x : Int) : Does Tryz.prog env 145 [.mp 0 0, sI .u32 a, sI .i64 x] (jM J c e p) (sI .i64 (0 : Nat)) (jM J c (fe e 6) (fp e p x)) := by
  refine does_of_tree names (jlb_tree J c e p a x) ?_
  have h1 := List.getElem?_eq_none_iff.1 h
  rw [List.length_reverse] at h1
  have w1 : IntKind.i64.wrap (a : Int) = a := i64In (by omega) (by omega)
  have d1 : decide ((a : Int) ≥ J.L.length) = true := by simp; omega
  simp only [jlbTree, Tree.ok, w1, d1, Bool.false_eq_true, Bool.true_eq_false, false_implies, true_implies, true_and, and_true]
  refine ⟨fun h => ?_, fun h => ?_⟩
  · have h : e = 0 := by simpa using h
    subst h
    rw [fe0, fp0]; rfl
  · have h : e ≠ 0 := by simpa using h
    rw [feE h, fpE h]; rfl

theorem jp_ok {n k : Nat} {d : Bool} (hn : n ≤ 1000000000) (hk : k ≤ 1000000000) (h : ¬ (n < k ∧ d = false)) (c e p x : Int) : Does Tryz.prog env 93 [.mp 0 0, hv n d, sI .i64 k, sI .i64 x] (jM J c e p) (hv (n - k : Nat) d) (jM J c e p) := by
  refine does_of_tree names (jpo_tree J c e p n d k x) ?_
  have w1 : IntKind.i64.wrap ((n : Int) - k) = n - k := i64In (by omega) (by omega)
  have mx : max ((n : Int) - k) 0 = ((n - k : Nat) : Int) := by omega
  simp only [jpoTree, Tree.ok, w1, cond_false, mx]
  refine ⟨fun h1 => ⟨fun h2 => ⟨fun h3 => ?_, fun h3 => ?_⟩, fun h2 => rfl⟩, fun h1 => rfl⟩ <;>
  · simp only [decide_eq_true_eq, Bool.not_eq_true'] at h1 h2
    exact absurd ⟨by omega, h2⟩ h

theorem jp_bad {n k : Nat} {d : Bool} (hn : n ≤ 1000000000) (hk : k ≤ 1000000000) (h : n < k ∧ d = false) (c e p x : Int) : Does Tryz.prog env 93 [.mp 0 0, hv n d, sI .i64 k, sI .i64 x] (jM J c e p) (hv (n - k : Nat) d) (jM J c (fe e 200) (fp e p x)) := by
  refine does_of_tree names (jpo_tree J c e p n d k x) ?_
  have w1 : IntKind.i64.wrap ((n : Int) - k) = n - k := i64In (by omega) (by omega)
  have mx : max ((n : Int) - k) 0 = ((n - k : Nat) : Int) := by omega
  obtain ⟨h1, rfl⟩ := h
  have d1 : decide ((k : Int) > n) = true := by simp; omega
  simp only [jpoTree, Tree.ok, w1, cond_false, mx, d1, Bool.not_false, Bool.false_eq_true, Bool.true_eq_false, false_implies, true_implies, and_true]
  refine ⟨fun h => ?_, fun h => ?_⟩
  · have h : e = 0 := by simpa using h
    subst h
    rw [fe0, fp0]; rfl
  · have h : e ≠ 0 := by simpa using h
    rw [feE h, fpE h]; rfl

theorem jp_any {n k : Nat} (d : Bool) (hn : n ≤ 1000000000) (hk : k ≤ 1000000000) (c e p x : Int) : ∃ e' p', Does Tryz.prog env 93 [.mp 0 0, hv n d, sI .i64 k, sI .i64 x] (jM J c e p) (hv (n - k : Nat) d) (jM J c e' p') ∧ (e ≠ 0 → e' = e ∧ p' = p) ∧ (e = 0 → (¬ (n < k ∧ d = false) ∧ e' = 0 ∧ p' = p) ∨ ((n < k ∧ d = false) ∧ e' = 200 ∧ p' = x)) := by
  by_cases h : n < k ∧ d = false
  · refine ⟨_, _, jp_bad hn hk h c e p x, fun he => ⟨feE he _, fpE he _ _⟩, fun he => .inr ⟨h, ?_, ?_⟩⟩
    · rw [he, fe0]
    · rw [he, fp0]
  · exact ⟨_, _, jp_ok hn hk h c e p x, fun _ => ⟨rfl, rfl⟩, fun he => .inl ⟨h, he, rfl⟩⟩

theorem jl_any (hJ : JOk J V) (a : Nat) (ha : a < 4294967296) (c e p x : Int) : ∃ (k : Nat) (e' p' : Int), k ≤ 1 ∧ Does Tryz.prog env 145 [.mp 0 0, sI .u32 a, sI .i64 x] (jM J c e p) (sI .i64 k) (jM J c e' p') ∧ (e ≠ 0 → e' = e ∧ p' = p) ∧ (e = 0 → (J.L.reverse[a]? = some k ∧ e' = 0 ∧ p' = p) ∨ (J.L.reverse[a]? = none ∧ e' = 6 ∧ p' = x)) ∧ k = J.L.reverse.getD a 0 := by
  cases h : J.L.reverse[a]? with
  | none => exact ⟨0, _, _, by omega, jl_none ha h c e p x, fun he => ⟨feE he _, fpE he _ _⟩, fun he => .inr ⟨rfl, by rw [he, fe0], by rw [he, fp0]⟩, by rw [List.getD_eq_getElem?_getD, h]; rfl⟩
  | some k =>
    have hk : k ≤ 1 := hJ.lab k (by
      obtain ⟨h1, h2⟩ := List.getElem?_eq_some_iff.1 h
      have := List.getElem_mem h1
      rw [h2] at this
      simpa using this)
    exact ⟨k, e, p, hk, jl_some hJ.len h c e p x, fun _ => ⟨rfl, rfl⟩, fun he => .inl ⟨rfl, he, rfl⟩, by rw [List.getD_eq_getElem?_getD, h]; rfl⟩

theorem jal_does (op : Int) : Does Tryz.prog env 146 [sI .i64 op] [] (.tup [sI .u32 (alignV op), sB (isStV op)]) [] := by
  refine does_of_tree names (jal_tree op) ?_
  by_cases h40 : op = 40
  · subst h40; simp [jalTree, Tree.ok, alignV, isStV]
  by_cases h54 : op = 54
  · subst h54; simp [jalTree, Tree.ok, alignV, isStV]
  by_cases h46 : op = 46
  · subst h46; simp [jalTree, Tree.ok, alignV, isStV]
  by_cases h47 : op = 47
  · subst h47; simp [jalTree, Tree.ok, alignV, isStV]
  by_cases h59 : op = 59
  · subst h59; simp [jalTree, Tree.ok, alignV, isStV]
  by_cases h44 : op = 44
  · subst h44; simp [jalTree, Tree.ok, alignV, isStV]
  by_cases h45 : op = 45
  · subst h45; simp [jalTree, Tree.ok, alignV, isStV]
  by_cases h58 : op = 58
  · subst h58; simp [jalTree, Tree.ok, alignV, isStV]
  simp [jalTree, Tree.ok, alignV, isStV, h40, h54, h46, h47, h59, h44, h45, h58]

def JOut (J : Jd) (r : VR) (v : AV) (m : Mem) : Prop := match r with
  | .ok n d c => v = hv n d ∧ m = jM J c 0 0
  | .bad e p => ∃ (n : Int) (d : Bool) (c : Int), v = hv n d ∧ m = jM J c e p

def JRun (J : Jd) (f : FuncId) (x : AV) (n : Nat) (d : Bool) (c : Nat) (r : VR) : Prop := ∃ v m, Does Tryz.prog env f [.mp 0 0, x, hv n d, sI .i64 c] (jM J c 0 0) v m ∧ JOut J r v m

def JOutF (J : Jd) (c : Nat) (r : VR) (v : AV) (m : Mem) : Prop := match r with
  | .ok n d c' => v = hv n d ∧ m = jM J c 0 0 ∧ c' = c
  | .bad e p => ∃ (n : Int) (d : Bool), v = hv n d ∧ m = jM J c e p
def JRunF (J : Jd) (f : FuncId) (x : AV) (n : Nat) (d : Bool) (c : Nat) (r : VR) : Prop := ∃ v m, Does Tryz.prog env f [.mp 0 0, x, hv n d, sI .i64 c] (jM J c 0 0) v m ∧ JOutF J c r v m

variable {r a b nn : Int} {tg : List Int} {ll le : List Ins} {n c : Nat} {d : Bool}

theorem jret_run (hJ : JOk J V) (hn : n ≤ 1000000000) (ls : List Nat) : JRunF J 122 (aggI 15 r a b nn tg ll le) n d c (flatV V ls 15 a tg n d c) := by
  have hret : J.tR = V.ret := hJ.v.ret
  have hr1 := hJ.v.ret1
  obtain ⟨e', p', hd, _, hz⟩ := jp_any (J := J) (n := n) (k := V.ret) d hn (by omega) c 0 0 c
  rw [← hret] at hd
  refine ⟨hv 0 true, jM J c e' p', does_of_tree names (jjr_tree J c r a b nn tg ll le n d c 0 (n - V.ret : Nat) e' p' 0 0 0 0 0) ?_, ?_⟩
  · simp only [jjrTree, Tree.ok]
    exact ⟨hd, rfl⟩
  show JOutF J c (popV c V.ret n d fun _ => .ok 0 true c) _ _
  unfold popV
  rcases hz rfl with ⟨h1, rfl, rfl⟩ | ⟨h1, rfl, rfl⟩
  · rw [if_neg h1]; exact ⟨rfl, rfl, rfl⟩
  · rw [if_pos h1]; exact ⟨_, _, rfl, rfl⟩

theorem jbr_run (hJ : JOk J V) (hn : n ≤ 1000000000) (a : Nat) (ha : a < 4294967296) : JRunF J 122 (aggI 12 r a b nn tg ll le) n d c (flatV V J.L.reverse 12 a tg n d c) := by
  obtain ⟨k, e1, p1, hk, hl, hA, hB, _⟩ := jl_any hJ a ha c 0 0 c
  obtain ⟨e2, p2, hd, hC, hD⟩ := jp_any (J := J) (n := n) (k := k) d hn (by omega) c e1 p1 c
  refine ⟨hv 0 true, jM J c e2 p2, does_of_tree names (jjb_tree J c r a b nn tg ll le n d c k (n - k : Nat) e2 p2 0 0 0 e1 p1) ?_, ?_⟩
  · simp only [jjbTree, Tree.ok]
    exact ⟨hl, hd, rfl⟩
  show JOutF J c (match J.L.reverse[(a : Int).toNat]? with
    | none => .bad 6 c
    | some k => popV c k n d fun _ => .ok 0 true c) _ _
  rw [Int.toNat_natCast]
  rcases hB rfl with ⟨h1, rfl, rfl⟩ | ⟨h1, rfl, rfl⟩
  · rw [h1]
    show JOutF J c (popV c k n d fun _ => .ok 0 true c) _ _
    unfold popV
    rcases hD rfl with ⟨h1, rfl, rfl⟩ | ⟨h1, rfl, rfl⟩
    · rw [if_neg h1]; exact ⟨rfl, rfl, rfl⟩
    · rw [if_pos h1]; exact ⟨_, _, rfl, rfl⟩
  · rw [h1]
    obtain ⟨rfl, rfl⟩ := hC (by decide)
    exact ⟨_, _, rfl, rfl⟩

theorem jbi_run (hJ : JOk J V) (hn : n ≤ 1000000000) (a : Nat) (ha : a < 4294967296) : JRunF J 122 (aggI 13 r a b nn tg ll le) n d c (flatV V J.L.reverse 13 a tg n d c) := by
  obtain ⟨k, e1, p1, hk, hl, hA, hB, _⟩ := jl_any hJ a ha c 0 0 c
  obtain ⟨e2, p2, hd, hC, hD⟩ := jp_any (J := J) (n := n) (k := 1) d hn (by omega) c e1 p1 c
  obtain ⟨e3, p3, hd3, hE, hF⟩ := jp_any (J := J) (n := n - 1) (k := k) d (by omega) (by omega) c e2 p2 c
  have w : IntKind.i64.wrap (((n - 1 - k : Nat) : Int) + k) = ((n - 1 - k + k : Nat) : Int) := by rw [i64In (by omega) (by omega)]; rfl
  refine ⟨hv (n - 1 - k + k : Nat) d, jM J c e3 p3, does_of_tree names (jji_tree J c r a b nn tg ll le n d c k (n - 1 : Nat) e2 p2 (n - 1 - k : Nat) e3 p3 e1 p1) ?_, ?_⟩
  · simp only [jjiTree, Tree.ok, w]
    exact ⟨hl, hd, hd3, rfl⟩
  show JOutF J c (match J.L.reverse[(a : Int).toNat]? with
    | none => .bad 6 c
    | some k => popV c 1 n d fun n1 => popV c k n1 d fun n2 => .ok (n2 + k) d c) _ _
  rw [Int.toNat_natCast]
  rcases hB rfl with ⟨h1, rfl, rfl⟩ | ⟨h1, rfl, rfl⟩
  · rw [h1]
    show JOutF J c (popV c 1 n d fun n1 => popV c k n1 d fun n2 => .ok (n2 + k) d c) _ _
    unfold popV
    rcases hD rfl with ⟨h1, rfl, rfl⟩ | ⟨h1, rfl, rfl⟩
    · rw [if_neg h1]
      dsimp only
      rcases hF rfl with ⟨h1, rfl, rfl⟩ | ⟨h1, rfl, rfl⟩
      · rw [if_neg h1]; exact ⟨rfl, rfl, rfl⟩
      · rw [if_pos h1]; exact ⟨_, _, rfl, rfl⟩
    · rw [if_pos h1]
      obtain ⟨rfl, rfl⟩ := hE (by decide)
      exact ⟨_, _, rfl, rfl⟩
  · rw [h1]
    obtain ⟨rfl, rfl⟩ := hC (by decide)
    obtain ⟨rfl, rfl⟩ := hE (by decide)
    exact ⟨_, _, rfl, rfl⟩

theorem jcall_run (hJ : JOk J V) (hn : n ≤ 1000000000) (a : Nat) (ha : a < 4294967296) (ls : List Nat) : JRunF J 123 (aggI 16 r a b nn tg ll le) n d c (flatV V ls 16 a tg n d c) := by
  have hty := hJ.ty a ha
  have hty1 := hJ.v.ty a ha
  show JRunF J 123 _ n d c (match V.ty a with
    | none => .bad 6 c
    | some (p, r) => popV c p n d fun n1 => .ok (n1 + r) d c)
  cases h : V.ty a with
  | none =>
    rw [h] at hty
    refine ⟨hv n d, jM J c 6 c, does_of_tree names (jca_tree J c r a b nn tg ll le n d c 0 0 0 0 false 0 0 0 0 0 0) ?_, _, _, rfl, rfl⟩
    simp only [jcaTree, Tree.ok, Bool.not_false, Bool.true_eq_false, false_implies, true_implies, and_true]
    exact ⟨hty, rfl⟩
  | some pr =>
    obtain ⟨P, Q⟩ := pr
    rw [h] at hty hty1
    obtain ⟨hP, hty⟩ := hty
    have hQ : Q ≤ 1 := hty1.1
    obtain ⟨e2, p2, hd, hC, hD⟩ := jp_any (J := J) (n := n) (k := P) d hn (by omega) c 0 0 c
    have w : IntKind.i64.wrap (((n - P : Nat) : Int) + Q) = ((n - P + Q : Nat) : Int) := by rw [i64In (by omega) (by omega)]; rfl
    refine ⟨hv (n - P + Q : Nat) d, jM J c e2 p2, does_of_tree names (jca_tree J c r a b nn tg ll le n d c P Q 0 0 true (n - P : Nat) e2 p2 0 0 0) ?_, ?_⟩
    · simp only [jcaTree, Tree.ok, w, Bool.not_true, Bool.false_eq_true, false_implies, true_implies, true_and]
      exact ⟨hty, hd, rfl⟩
    show JOutF J c (popV c P n d fun n1 => .ok (n1 + Q) d c) _ _
    unfold popV
    rcases hD rfl with ⟨h1, rfl, rfl⟩ | ⟨h1, rfl, rfl⟩
    · rw [if_neg h1]; exact ⟨rfl, rfl, rfl⟩
    · rw [if_pos h1]; exact ⟨_, _, rfl, rfl⟩

theorem ty_any (hJ : JOk J V) (a : Nat) (ha : a < 4294967296) : ∃ (P Q : Int) (is : Bool), Does Tryz.prog env 57 [.agg J.M.cells, sI .u32 a] [] (.tup [.agg [sI .i64 P, sI .i64 Q], sB is]) [] := by
  have hty := hJ.ty a ha
  cases h : V.ty a with
  | none => rw [h] at hty; exact ⟨_, _, _, hty⟩
  | some pr => rw [h] at hty; exact ⟨_, _, _, hty.2⟩

theorem jind_run (hJ : JOk J V) (hn : n ≤ 1000000000) (a : Nat) (ha : a < 4294967296) (ls : List Nat) : JRunF J 123 (aggI 17 r a b nn tg ll le) n d c (flatV V ls 17 a tg n d c) := by
  obtain ⟨P0, Q0, is, hty⟩ := ty_any hJ a ha
  have hin := hJ.v.ind a
  have hN : J.M.tyN ≤ 1000000000 := hJ.v.tyN
  have w1 : IntKind.i64.wrap (a : Int) = a := i64In (by omega) (by omega)
  show JRunF J 123 _ n d c (match V.ind a with
    | none => .bad 6 c
    | some (p, r) => popV c 1 n d fun n1 => popV c p n1 d fun n2 => .ok (n2 + r) d c)
  by_cases ht : 0 < J.M.taN
  · have tt : decide ((J.M.taN : Int) > 0) = true := by simp; omega
    by_cases hlt : a < J.M.tyN
    · have hin : ∃ p r : Nat, V.ind a = some (p, r) ∧ r ≤ 1 ∧ J.M.tyC.getD (a * 2) .bad = .sc (.int .i64 p) ∧ J.M.tyC.getD (a * 2 + 1) .bad = .sc (.int .i64 r) := by
        rw [if_pos ⟨ht, hlt⟩] at hin; exact hin
      obtain ⟨P, Q, hV, hQ, hp, hq⟩ := hin
      have hP := hJ.indP _ _ _ hV
      obtain ⟨e2, p2, hd, hC, hD⟩ := jp_any (J := J) (n := n) (k := 1) d hn (by omega) c 0 0 c
      obtain ⟨e3, p3, hd3, hE, hF⟩ := jp_any (J := J) (n := n - 1) (k := P) d (by omega) (by omega) c e2 p2 c
      have w : IntKind.i64.wrap (((n - 1 - P : Nat) : Int) + Q) = ((n - 1 - P + Q : Nat) : Int) := by rw [i64In (by omega) (by omega)]; rfl
      have d1 : decide ((a : Int) < J.M.tyN) = true := by simp; omega
      refine ⟨hv (n - 1 - P + Q : Nat) d, jM J c e3 p3, Does.fromW (does_of_tree names (jdaT_tree J c r a b nn tg ll le n d c P0 Q0 P Q is (n - 1 : Nat) e2 p2 (n - 1 - P : Nat) e3 p3) ?_), ?_⟩
      · simp only [jdaTTree, Tree.ok, w1, d1, tt, Int.toNat_natCast, hp, hq, pvInt, isInt, ik, w, inB, Bool.not_true, Bool.not_false, Bool.false_eq_true, Bool.true_eq_false, false_implies, true_implies, true_and, and_true, Bool.and_true, Bool.and_eq_true, decide_eq_true_eq]
        exact ⟨Does.toW hty, rfl, by omega, Does.toW hd, Does.toW hd3, rfl⟩
      rw [hV]
      show JOutF J c (popV c 1 n d fun n1 => popV c P n1 d fun n2 => .ok (n2 + Q) d c) _ _
      unfold popV
      rcases hD rfl with ⟨h1, rfl, rfl⟩ | ⟨h1, rfl, rfl⟩
      · rw [if_neg h1]
        dsimp only
        rcases hF rfl with ⟨h1, rfl, rfl⟩ | ⟨h1, rfl, rfl⟩
        · rw [if_neg h1]; exact ⟨rfl, rfl, rfl⟩
        · rw [if_pos h1]; exact ⟨_, _, rfl, rfl⟩
      · rw [if_pos h1]
        obtain ⟨rfl, rfl⟩ := hE (by decide)
        exact ⟨_, _, rfl, rfl⟩
    · have hin : V.ind a = none := by rw [if_neg (fun q => hlt q.2)] at hin; exact hin
      have d1 : decide ((a : Int) < J.M.tyN) = false := by simp; omega
      rw [hin]
      refine ⟨hv n d, jM J c 6 c, Does.fromW (does_of_tree names (jdaT_tree J c r a b nn tg ll le n d c P0 Q0 0 0 is 0 0 0 0 0 0) ?_), _, _, rfl, rfl⟩
      simp only [jdaTTree, Tree.ok, w1, d1, tt, Bool.not_true, Bool.not_false, Bool.false_eq_true, Bool.true_eq_false, false_implies, true_implies, true_and, and_true, Bool.and_true]
      exact ⟨Does.toW hty, rfl, rfl⟩
  · have hin : V.ind a = none := by rw [if_neg (fun q => ht q.1)] at hin; exact hin
    have tt : decide ((J.M.taN : Int) > 0) = false := by simp; omega
    rw [hin]
    refine ⟨hv n d, jM J c 6 c, Does.fromW (does_of_tree names (jdaF_tree J c r a b nn tg ll le n d c P0 Q0 0 0 is 0 0 0 0 0 0) ?_), _, _, rfl, rfl⟩
    simp only [jdaFTree, Tree.ok, tt, Bool.and_true]
    exact ⟨Does.toW hty, rfl, rfl⟩

end
end Go.Proofs.YtgbphddecpjlhaaGreatDoor.N
end
