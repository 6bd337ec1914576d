/-
  One instruction: its operation's name, what the operation uses, whether it may be, as the program and as the document say.
  One instruction: whether it may be, as the document says.
  The document's check of instructions: what its parts tell, of any instructions.
-/
import Derived.Test.YtdmmllcjgjmbbaaDoorMI

section
namespace Go.Proofs.YtdmmllcjgjmbbaaDoor.N
open Go Go.Am

def namC (f : FuncId) (_ : List AV) (_ : Mem) : Option (AV × Mem) := cond (Nat.beq f 59) (some (.agg (nmL.map fun s => .p (.sc (.string s))), [])) none
def namS (op : Int) : FuncId → Nat → Nat → Option (AV → AV) := shapeAt [(57, 4, 2, .p (.sc (.string (nmL.getD op.toNat ⟨#[]⟩))))]
def useC (_op : Int) (n : Int) (st : Bool) (f : FuncId) (_ : List AV) (_ : Mem) : Option (AV × Mem) := cond (Nat.beq f 58) (some (.tup [sI .u32 n, sB st], [])) none
def mayC (_op _r _a _b _nn : Int) (_tg : List Int) (_ll _le : List Ins) (s : ByteArray) (u1 u2 u3 u4 u5 u6 : Bool) (f : FuncId) (_ : List AV) (_ : Mem) : Option (AV × Mem) := cond (Nat.beq f 57) (some (.p (.sc (.string s)), [])) (cond (Nat.beq f 56) (some (.agg [sB u1, sB u2, sB u3, sB u4, sB u5, sB u6], [])) none)
noncomputable def namOrc (op : Int) : Orc := orcS namC noLed [] [(57, 2, 3), (57, 0, 0)] [(57, 4, 2)] (namS op)
def namSc : Sc := (.fork (.lit .fin) .fin)
noncomputable def namTree (op : Int) : Tree :=
 (.test (decide (op < 0))
 (.out (.ret (.p (.sc (.string (ByteArray.mk #[])))) []))
 (.test (decide (op ≥ 256))
 (.out (.ret (.p (.sc (.string (ByteArray.mk #[])))) []))
 (.call ⟨59, [], [], .agg (nmL.map fun s => .p (.sc (.string s))), []⟩
 (.must (inB op 256 && (op.toNat * 1).blt 256 && true)
 (.need ((nmL.map fun s => AV.p (PV.sc (.string s))).getD (op.toNat * 1) AV.junk = AV.p (PV.sc (Value.string (nmL.getD op.toNat (ByteArray.mk #[])))))
 (.out (.ret (.p (.sc (.string (nmL.getD op.toNat (ByteArray.mk #[]))))) [])))))))
theorem nam_tree (op : Int) : growF Tryd.prog env (namOrc op) 1000000 57 ([sI IntKind.i64 op]) ([]) namSc = namTree op := by kernel_rfl

noncomputable def alPOrc : Orc := orcL noCall noLed [] [(58, 0, 0), (58, 0, 1), (58, 0, 2), (58, 0, 4), (58, 0, 3), (58, 0, 5), (58, 0, 7), (58, 0, 6)] []
def alPSc : Sc := (.fork (.yes .fin) (.fork .fin (.fork (.yes .fin) (.fork (.yes .fin) (.fork .fin (.fork (.yes .fin) (.fork (.yes .fin) .fin)))))))
noncomputable def alPTree (op : Int) : Tree :=
 (.test (op == 40)
 (.must (op == 40)
 (.out (.ret (.tup [sI .u32 2, sB true]) [])))
 (.test (op == 54)
 (.out (.ret (.tup [sI .u32 2, sB true]) []))
 (.test (op == 46)
 (.must (op == 46)
 (.out (.ret (.tup [sI .u32 1, sB true]) [])))
 (.test (op == 47)
 (.must (op == 47)
 (.out (.ret (.tup [sI .u32 1, sB true]) [])))
 (.test (op == 59)
 (.out (.ret (.tup [sI .u32 1, sB true]) []))
 (.test (op == 44)
 (.must (op == 44)
 (.out (.ret (.tup [sI .u32 0, sB true]) [])))
 (.test (op == 45)
 (.must (op == 45)
 (.out (.ret (.tup [sI .u32 0, sB true]) [])))
 (.test (op == 58)
 (.out (.ret (.tup [sI .u32 0, sB true]) []))
 (.out (.ret (.tup [sI .u32 0, sB false]) []))))))))))
theorem alP_tree (op : Int) : growF Tryd.prog env alPOrc 1000000 58 ([sI IntKind.i64 op]) ([]) alPSc = alPTree op := by kernel_rfl

noncomputable def useOrc (op n : Int) (st : Bool) : Orc := orcL (useC op n st) noLed [] [(56, 0, 0), (56, 0, 1), (56, 0, 2), (56, 0, 3), (56, 0, 4), (56, 0, 12), (56, 0, 5), (56, 0, 6), (56, 0, 7), (56, 0, 8), (56, 0, 9), (56, 0, 10), (56, 0, 11), (56, 0, 13), (56, 0, 14)] []
def useSc : Sc := (.fork .fin (.fork (.yes .fin) (.fork .fin (.fork .fin (.fork (.yes .fin) (.fork (.yes .fin) (.fork (.yes .fin) (.fork (.yes .fin) (.fork (.yes .fin) (.fork (.yes .fin) (.fork (.yes .fin) (.fork (.yes .fin) .fin))))))))))))
noncomputable def useTree (op n : Int) (st : Bool) : Tree :=
 (.call ⟨58, [sI .i64 op], [], .tup [sI .u32 n, .p (.sc (.bool st))], []⟩
 (.test (st)
 (.out (.ret (.agg [sB false, sB false, sB true, sB true, sB false, sB false]) []))
 (.test (op == 2)
 (.must (op == 2)
 (.out (.ret (.agg [sB true, sB false, sB false, sB false, sB false, sB false]) [])))
 (.test (op == 3)
 (.out (.ret (.agg [sB true, sB false, sB false, sB false, sB false, sB false]) []))
 (.test (op == 4)
 (.out (.ret (.agg [sB true, sB true, sB false, sB false, sB false, sB false]) []))
 (.test (op == 12)
 (.must (op == 12)
 (.out (.ret (.agg [sB false, sB false, sB true, sB false, sB false, sB false]) [])))
 (.test (op == 13)
 (.must (op == 13)
 (.out (.ret (.agg [sB false, sB false, sB true, sB false, sB false, sB false]) [])))
 (.test (op == 16)
 (.must (op == 16)
 (.out (.ret (.agg [sB false, sB false, sB true, sB false, sB false, sB false]) [])))
 (.test (op == 17)
 (.must (op == 17)
 (.out (.ret (.agg [sB false, sB false, sB true, sB false, sB false, sB false]) [])))
 (.test (op == 32)
 (.must (op == 32)
 (.out (.ret (.agg [sB false, sB false, sB true, sB false, sB false, sB false]) [])))
 (.test (op == 33)
 (.must (op == 33)
 (.out (.ret (.agg [sB false, sB false, sB true, sB false, sB false, sB false]) [])))
 (.test (op == 34)
 (.must (op == 34)
 (.out (.ret (.agg [sB false, sB false, sB true, sB false, sB false, sB false]) [])))
 (.test (op == 35)
 (.must (op == 35)
 (.out (.ret (.agg [sB false, sB false, sB true, sB false, sB false, sB false]) [])))
 (.test (op == 36)
 (.out (.ret (.agg [sB false, sB false, sB true, sB false, sB false, sB false]) []))
 (.test (op == 14)
 (.out (.ret (.agg [sB false, sB false, sB true, sB false, sB false, sB true]) []))
 (.test (op == 65)
 (.out (.ret (.agg [sB false, sB false, sB false, sB false, sB true, sB false]) []))
 (.out (.ret (.agg [sB false, sB false, sB false, sB false, sB false, sB false]) []))))))))))))))))))
theorem use_tree (op n : Int) (st : Bool) : growF Tryd.prog env (useOrc op n st) 1000000 56 ([sI IntKind.i64 op]) ([]) useSc = useTree op n st := by kernel_rfl

noncomputable def mayOrc (op r a b nn : Int) (tg : List Int) (ll : List Ins) (le : List Ins) (s : ByteArray) (u1 : Bool) (u2 : Bool) (u3 : Bool) (u4 : Bool) (u5 : Bool) (u6 : Bool) : Orc := orcL (mayC op r a b nn tg ll le s u1 u2 u3 u4 u5 u6) noLed [] [(54, 0, 0), (54, 0, 3), (54, 4, 4), (54, 0, 1), (54, 5, 4), (54, 5, 8), (54, 0, 2), (54, 6, 4), (54, 8, 3), (54, 8, 11), (54, 8, 20), (54, 8, 29), (54, 8, 26), (54, 8, 17), (54, 8, 8)] []
def maySc : Sc := (.fork (.yes .fin) (.fork (.lit (.lit .fin)) (.fork (.yes .fin) (.fork (.fork (.lit (.lit .fin)) (.fork (.yes .fin) (.fork (.fork .fin (.fork (.lit (.fork (.lit (.fork (.lit .fin) .fin)) (.fork (.fork (.lit .fin) .fin) (.lit .fin)))) (.fork (.fork (.lit (.fork (.lit .fin) .fin)) (.fork (.fork (.lit .fin) .fin) (.lit .fin))) (.lit (.lit .fin))))) (.lit (.fork (.lit (.fork (.lit (.fork (.lit .fin) .fin)) (.fork (.fork (.lit .fin) .fin) (.lit .fin)))) (.fork (.fork (.lit (.fork (.lit .fin) .fin)) (.fork (.fork (.lit .fin) .fin) (.lit .fin))) (.lit (.lit .fin)))))))) (.lit (.fork (.fork .fin (.fork (.lit (.fork (.lit (.fork (.lit .fin) .fin)) (.fork (.fork (.lit .fin) .fin) (.lit .fin)))) (.fork (.fork (.lit (.fork (.lit .fin) .fin)) (.fork (.fork (.lit .fin) .fin) (.lit .fin))) (.lit (.lit .fin))))) (.lit (.fork (.lit (.fork (.lit (.fork (.lit .fin) .fin)) (.fork (.fork (.lit .fin) .fin) (.lit .fin)))) (.fork (.fork (.lit (.fork (.lit .fin) .fin)) (.fork (.fork (.lit .fin) .fin) (.lit .fin))) (.lit (.lit .fin)))))))))))
noncomputable def mayTree (op r a b nn : Int) (tg : List Int) (ll : List Ins) (le : List Ins) (s : ByteArray) (u1 : Bool) (u2 : Bool) (u3 : Bool) (u4 : Bool) (u5 : Bool) (u6 : Bool) : Tree :=
 (.call ⟨56, [sI .i64 op], [], .agg [.p (.sc (.bool u1)), .p (.sc (.bool u2)), .p (.sc (.bool u3)), .p (.sc (.bool u4)), .p (.sc (.bool u5)), .p (.sc (.bool u6))], []⟩
 (.call ⟨57, [sI .i64 op], [], .p (.sc (.string s)), []⟩
 (.test (s.data.toList == (ByteArray.mk #[]).data.toList)
 (.must (s.data.toList == (ByteArray.mk #[]).data.toList)
 (.out (.ret (sB false) [])))
 (.test (decide (r < 0))
 (.out (.ret (sB false) []))
 (.test (decide (r > 1))
 (.must (decide (r > 1))
 (.out (.ret (sB false) [])))
 (.test (!u1)
 (.test (r != 0)
 (.out (.ret (sB false) []))
 (.test (decide ((↑ll.length : Int) > 0))
 (.must (decide ((↑ll.length : Int) > 0))
 (.out (.ret (sB false) [])))
 (.test (!u2)
 (.test (decide ((↑le.length : Int) > 0))
 (.out (.ret (sB false) []))
 (.test (u3)
 (.test (u4)
 (.test (u5)
 (.test (u6)
 (.out (.ret (sB true) []))
 (.out (.ret (.p (.sc (.bool ((↑tg.length : Int) == 0)))) [])))
 (.test (nn == 0)
 (.test (u6)
 (.out (.ret (sB true) []))
 (.out (.ret (.p (.sc (.bool ((↑tg.length : Int) == 0)))) [])))
 (.out (.ret (sB false) []))))
 (.test (b == 0)
 (.test (u5)
 (.test (u6)
 (.out (.ret (sB true) []))
 (.out (.ret (.p (.sc (.bool ((↑tg.length : Int) == 0)))) [])))
 (.test (nn == 0)
 (.test (u6)
 (.out (.ret (sB true) []))
 (.out (.ret (.p (.sc (.bool ((↑tg.length : Int) == 0)))) [])))
 (.out (.ret (sB false) []))))
 (.out (.ret (sB false) []))))
 (.test (a == 0)
 (.test (u4)
 (.test (u5)
 (.test (u6)
 (.out (.ret (sB true) []))
 (.out (.ret (.p (.sc (.bool ((↑tg.length : Int) == 0)))) [])))
 (.test (nn == 0)
 (.test (u6)
 (.out (.ret (sB true) []))
 (.out (.ret (.p (.sc (.bool ((↑tg.length : Int) == 0)))) [])))
 (.out (.ret (sB false) []))))
 (.test (b == 0)
 (.test (u5)
 (.test (u6)
 (.out (.ret (sB true) []))
 (.out (.ret (.p (.sc (.bool ((↑tg.length : Int) == 0)))) [])))
 (.test (nn == 0)
 (.test (u6)
 (.out (.ret (sB true) []))
 (.out (.ret (.p (.sc (.bool ((↑tg.length : Int) == 0)))) [])))
 (.out (.ret (sB false) []))))
 (.out (.ret (sB false) []))))
 (.out (.ret (sB false) [])))))
 (.test (u3)
 (.test (u4)
 (.test (u5)
 (.test (u6)
 (.out (.ret (sB true) []))
 (.out (.ret (.p (.sc (.bool ((↑tg.length : Int) == 0)))) [])))
 (.test (nn == 0)
 (.test (u6)
 (.out (.ret (sB true) []))
 (.out (.ret (.p (.sc (.bool ((↑tg.length : Int) == 0)))) [])))
 (.out (.ret (sB false) []))))
 (.test (b == 0)
 (.test (u5)
 (.test (u6)
 (.out (.ret (sB true) []))
 (.out (.ret (.p (.sc (.bool ((↑tg.length : Int) == 0)))) [])))
 (.test (nn == 0)
 (.test (u6)
 (.out (.ret (sB true) []))
 (.out (.ret (.p (.sc (.bool ((↑tg.length : Int) == 0)))) [])))
 (.out (.ret (sB false) []))))
 (.out (.ret (sB false) []))))
 (.test (a == 0)
 (.test (u4)
 (.test (u5)
 (.test (u6)
 (.out (.ret (sB true) []))
 (.out (.ret (.p (.sc (.bool ((↑tg.length : Int) == 0)))) [])))
 (.test (nn == 0)
 (.test (u6)
 (.out (.ret (sB true) []))
 (.out (.ret (.p (.sc (.bool ((↑tg.length : Int) == 0)))) [])))
 (.out (.ret (sB false) []))))
 (.test (b == 0)
 (.test (u5)
 (.test (u6)
 (.out (.ret (sB true) []))
 (.out (.ret (.p (.sc (.bool ((↑tg.length : Int) == 0)))) [])))
 (.test (nn == 0)
 (.test (u6)
 (.out (.ret (sB true) []))
 (.out (.ret (.p (.sc (.bool ((↑tg.length : Int) == 0)))) [])))
 (.out (.ret (sB false) []))))
 (.out (.ret (sB false) []))))
 (.out (.ret (sB false) [])))))))
 (.test (!u2)
 (.test (decide ((↑le.length : Int) > 0))
 (.out (.ret (sB false) []))
 (.test (u3)
 (.test (u4)
 (.test (u5)
 (.test (u6)
 (.out (.ret (sB true) []))
 (.out (.ret (.p (.sc (.bool ((↑tg.length : Int) == 0)))) [])))
 (.test (nn == 0)
 (.test (u6)
 (.out (.ret (sB true) []))
 (.out (.ret (.p (.sc (.bool ((↑tg.length : Int) == 0)))) [])))
 (.out (.ret (sB false) []))))
 (.test (b == 0)
 (.test (u5)
 (.test (u6)
 (.out (.ret (sB true) []))
 (.out (.ret (.p (.sc (.bool ((↑tg.length : Int) == 0)))) [])))
 (.test (nn == 0)
 (.test (u6)
 (.out (.ret (sB true) []))
 (.out (.ret (.p (.sc (.bool ((↑tg.length : Int) == 0)))) [])))
 (.out (.ret (sB false) []))))
 (.out (.ret (sB false) []))))
 (.test (a == 0)
 (.test (u4)
 (.test (u5)
 (.test (u6)
 (.out (.ret (sB true) []))
 (.out (.ret (.p (.sc (.bool ((↑tg.length : Int) == 0)))) [])))
 (.test (nn == 0)
 (.test (u6)
 (.out (.ret (sB true) []))
 (.out (.ret (.p (.sc (.bool ((↑tg.length : Int) == 0)))) [])))
 (.out (.ret (sB false) []))))
 (.test (b == 0)
 (.test (u5)
 (.test (u6)
 (.out (.ret (sB true) []))
 (.out (.ret (.p (.sc (.bool ((↑tg.length : Int) == 0)))) [])))
 (.test (nn == 0)
 (.test (u6)
 (.out (.ret (sB true) []))
 (.out (.ret (.p (.sc (.bool ((↑tg.length : Int) == 0)))) [])))
 (.out (.ret (sB false) []))))
 (.out (.ret (sB false) []))))
 (.out (.ret (sB false) [])))))
 (.test (u3)
 (.test (u4)
 (.test (u5)
 (.test (u6)
 (.out (.ret (sB true) []))
 (.out (.ret (.p (.sc (.bool ((↑tg.length : Int) == 0)))) [])))
 (.test (nn == 0)
 (.test (u6)
 (.out (.ret (sB true) []))
 (.out (.ret (.p (.sc (.bool ((↑tg.length : Int) == 0)))) [])))
 (.out (.ret (sB false) []))))
 (.test (b == 0)
 (.test (u5)
 (.test (u6)
 (.out (.ret (sB true) []))
 (.out (.ret (.p (.sc (.bool ((↑tg.length : Int) == 0)))) [])))
 (.test (nn == 0)
 (.test (u6)
 (.out (.ret (sB true) []))
 (.out (.ret (.p (.sc (.bool ((↑tg.length : Int) == 0)))) [])))
 (.out (.ret (sB false) []))))
 (.out (.ret (sB false) []))))
 (.test (a == 0)
 (.test (u4)
 (.test (u5)
 (.test (u6)
 (.out (.ret (sB true) []))
 (.out (.ret (.p (.sc (.bool ((↑tg.length : Int) == 0)))) [])))
 (.test (nn == 0)
 (.test (u6)
 (.out (.ret (sB true) []))
 (.out (.ret (.p (.sc (.bool ((↑tg.length : Int) == 0)))) [])))
 (.out (.ret (sB false) []))))
 (.test (b == 0)
 (.test (u5)
 (.test (u6)
 (.out (.ret (sB true) []))
 (.out (.ret (.p (.sc (.bool ((↑tg.length : Int) == 0)))) [])))
 (.test (nn == 0)
 (.test (u6)
 (.out (.ret (sB true) []))
 (.out (.ret (.p (.sc (.bool ((↑tg.length : Int) == 0)))) [])))
 (.out (.ret (sB false) []))))
 (.out (.ret (sB false) []))))
 (.out (.ret (sB false) [])))))))))))
theorem may_tree (op r a b nn : Int) (tg : List Int) (ll : List Ins) (le : List Ins) (s : ByteArray) (u1 : Bool) (u2 : Bool) (u3 : Bool) (u4 : Bool) (u5 : Bool) (u6 : Bool) : growF Tryd.prog env (mayOrc op r a b nn tg ll le s u1 u2 u3 u4 u5 u6) 1000000 54 ([aggI op r a b nn tg ll le]) ([]) maySc = mayTree op r a b nn tg ll le s u1 u2 u3 u4 u5 u6 := by kernel_rfl

def nm (op : Int) : ByteArray := if op < 0 ∨ 256 ≤ op then ⟨#[]⟩ else nmL.getD op.toNat ⟨#[]⟩

theorem name_does (op : Int) : Does Tryd.prog env 57 [sI .i64 op] [] (.p (.sc (.string (nm op)))) [] := by
  refine does_of_tree names (nam_tree op) ?_
  simp only [namTree, Tree.ok, decide_eq_true_eq, decide_eq_false_iff_not]
  have hlen : (nmL.map fun s => (AV.p (PV.sc (.string s)))).length = 256 := by kernel_rfl
  refine ⟨fun h => ?_, fun h => ⟨fun h2 => ?_, fun h2 => ⟨Nmdoes, ?_, ?_, ?_⟩⟩⟩
  · rw [nm, if_pos (.inl h)]
  · rw [nm, if_pos (.inr h2)]
  · simp [inB]; omega
  · have hl : op.toNat < (nmL.map fun s => (AV.p (PV.sc (.string s)))).length := by rw [hlen]; omega
    rw [Nat.mul_one, List.getD_eq_getElem?_getD, List.getElem?_eq_getElem hl, Option.getD_some, List.getElem_map, List.getD_eq_getElem?_getD, List.getElem?_eq_getElem (by simpa using hl), Option.getD_some]
  · rw [nm, if_neg (by omega)]

def isSt (op : Int) : Bool := decide (op = 40 ∨ op = 44 ∨ op = 45 ∨ op = 46 ∨ op = 47 ∨ op = 54 ∨ op = 58 ∨ op = 59)
def alignN (op : Int) : Int := if op = 40 ∨ op = 54 then 2 else if op = 46 ∨ op = 47 ∨ op = 59 then 1 else 0
def isLi (op : Int) : Bool := decide (op = 2 ∨ op = 3 ∨ op = 4)
def isWh (op : Int) : Bool := decide (op = 12 ∨ op = 13 ∨ op = 16 ∨ op = 17 ∨ (32 ≤ op ∧ op ≤ 36))

theorem align_does (op : Int) : Does Tryd.prog env 58 [sI .i64 op] [] (.tup [sI .u32 (alignN op), sB (isSt op)]) [] := by
  refine does_of_tree names (alP_tree op) ?_
  simp only [alPTree, Tree.ok, beq_iff_eq, beq_eq_false_iff_ne]
  repeat' first | apply And.intro | (intro h)
  all_goals first | assumption | (simp only [alignN, isSt]; simp_all; done)

def useV (op : Int) : AV := .agg [sB (isLi op), sB (decide (op = 4)), sB (isSt op || isWh op || decide (op = 14)), sB (isSt op), sB (decide (op = 65)), sB (decide (op = 14))]

theorem use_eq {op : Int} {x1 x2 x3 x4 x5 x6 : Bool} (h1 : x1 = true ↔ isLi op = true) (h2 : x2 = true ↔ op = 4) (h3 : x3 = true ↔ isSt op = true ∨ isWh op = true ∨ op = 14) (h4 : x4 = true ↔ isSt op = true) (h5 : x5 = true ↔ op = 65) (h6 : x6 = true ↔ op = 14) :
    Out.ret (.agg [.p (.sc (.bool x1)), .p (.sc (.bool x2)), .p (.sc (.bool x3)), .p (.sc (.bool x4)), .p (.sc (.bool x5)), .p (.sc (.bool x6))]) [] = Out.ret (useV op) [] := by
  obtain rfl : x1 = isLi op := Bool.eq_iff_iff.2 h1
  obtain rfl : x2 = decide (op = 4) := Bool.eq_iff_iff.2 (by rw [h2, decide_eq_true_eq])
  obtain rfl : x3 = (isSt op || isWh op || decide (op = 14)) := Bool.eq_iff_iff.2 (by rw [h3, Bool.or_eq_true, Bool.or_eq_true, decide_eq_true_eq, or_assoc])
  obtain rfl : x4 = isSt op := Bool.eq_iff_iff.2 h4
  obtain rfl : x5 = decide (op = 65) := Bool.eq_iff_iff.2 (by rw [h5, decide_eq_true_eq])
  obtain rfl : x6 = decide (op = 14) := Bool.eq_iff_iff.2 (by rw [h6, decide_eq_true_eq])
  rfl

theorem isSt_iff {op : Int} : isSt op = true ↔ (op = 40 ∨ op = 44 ∨ op = 45 ∨ op = 46 ∨ op = 47 ∨ op = 54 ∨ op = 58 ∨ op = 59) := decide_eq_true_iff
theorem isLi_iff {op : Int} : isLi op = true ↔ (op = 2 ∨ op = 3 ∨ op = 4) := decide_eq_true_iff
theorem isWh_iff {op : Int} : isWh op = true ↔ (op = 12 ∨ op = 13 ∨ op = 16 ∨ op = 17 ∨ (32 ≤ op ∧ op ≤ 36)) := decide_eq_true_iff

set_option maxHeartbeats 2000000 in
theorem uses_does (op : Int) : Does Tryd.prog env 56 [sI .i64 op] [] (useV op) [] := by
  refine does_of_tree names (use_tree op (alignN op) (isSt op)) ?_
  simp only [useTree, Tree.ok, beq_iff_eq, beq_eq_false_iff_ne]
  refine ⟨align_does op, ?_⟩
  rw [← Bool.not_eq_true, isSt_iff]
  repeat' first | apply And.intro | (intro h)
  all_goals first | assumption | (refine use_eq ?_ ?_ ?_ ?_ ?_ ?_ <;> simp only [isSt_iff, isLi_iff, isWh_iff, true_iff, Bool.false_eq_true, false_iff] <;> omega)

def mayF (e0 u1 u2 u3 u4 u5 u6 e1 e2 e3 e4 e5 e6 e7 e8 e9 : Bool) : Bool := !e0 && (!e1 && (!e2 && ((u1 || !(e3 || e4)) && ((u2 || !e5) && ((u3 || e6) && ((u4 || e7) && ((u5 || e8) && (u6 || e9))))))))

set_option maxHeartbeats 4000000 in
theorem may_of (op r a b nn : Int) (tg : List Int) (ll le : List Ins) (s : ByteArray) (u1 u2 u3 u4 u5 u6 : Bool) (h1 : Does Tryd.prog env 56 [sI .i64 op] [] (.agg [sB u1, sB u2, sB u3, sB u4, sB u5, sB u6]) []) (h2 : Does Tryd.prog env 57 [sI .i64 op] [] (.p (.sc (.string s))) []) :
    Does Tryd.prog env 54 [aggI op r a b nn tg ll le] [] (sB (mayF (s.data.toList == (ByteArray.mk #[]).data.toList) u1 u2 u3 u4 u5 u6 (decide (r < 0)) (decide (r > 1)) (r != 0) (decide ((ll.length : Int) > 0)) (decide ((le.length : Int) > 0)) (a == 0) (b == 0) (nn == 0) ((tg.length : Int) == 0))) [] := by
  refine does_of_tree names (may_tree op r a b nn tg ll le s u1 u2 u3 u4 u5 u6) ?_
  simp only [mayTree, Tree.ok]
  refine ⟨h1, h2, ?_⟩
  generalize (s.data.toList == (ByteArray.mk #[]).data.toList) = e0
  generalize decide (r < 0) = e1
  generalize decide (r > 1) = e2
  generalize (r != 0) = e3
  generalize decide ((ll.length : Int) > 0) = e4
  generalize decide ((le.length : Int) > 0) = e5
  generalize (a == 0) = e6
  generalize (b == 0) = e7
  generalize (nn == 0) = e8
  generalize ((tg.length : Int) == 0) = e9
  cases e0
  case true => simp [mayF]
  cases e1
  case true => simp [mayF]
  cases e2
  case true => simp [mayF]
  cases u1 <;> cases e3 <;> cases e4 <;> (try (simp [mayF]; done)) <;> cases u2 <;> cases e5 <;> (try (simp [mayF]; done)) <;> cases u3 <;> cases e6 <;> (try (simp [mayF]; done)) <;> cases u4 <;> cases e7 <;> (try (simp [mayF]; done)) <;> cases u5 <;> cases e8 <;> (try (simp [mayF]; done)) <;> cases u6 <;> simp [mayF]

end Go.Proofs.YtdmmllcjgjmbbaaDoor.N
end

section
namespace Go.Proofs.YtdmmllcjgjmbbaaDoor.N
open Go Go.Am

end Go.Proofs.YtdmmllcjgjmbbaaDoor.N
end

section
namespace Go.Proofs.YtdmmllcjgjmbbaaDoor.N
open Go Go.Am

def mayI : Ins → Bool
  | .mk op r a b nn tg ll le => mayF ((nm op).data.toList == (ByteArray.mk #[]).data.toList) (isLi op) (decide (op = 4)) (isSt op || isWh op || decide (op = 14)) (isSt op) (decide (op = 65)) (decide (op = 14)) (decide (r < 0)) (decide (r > 1)) (r != 0) (decide ((ll.length : Int) > 0)) (decide ((le.length : Int) > 0)) (a == 0) (b == 0) (nn == 0) ((tg.length : Int) == 0)

theorem mayI_does (x : Ins) : Does Tryd.prog env 54 [aggX x] [] (sB (mayI x)) [] := by
  obtain ⟨op, r, a, b, nn, tg, ll, le⟩ := x
  exact may_of op r a b nn tg ll le (nm op) _ _ _ _ _ _ (uses_does op) (name_does op)

end Go.Proofs.YtdmmllcjgjmbbaaDoor.N
end
