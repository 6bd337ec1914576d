/-
  Both sides' Check of the law's module tell the same.
  How many instructions there are: what the laws' kit tells.
  The laws' module with a word told: module.Check, and the function's body.
  Calls that only read: lists in the caller's blocks are told to them as values.
  ValidParts: the law's call.
  ValidBodies, the law: in the laws' module both sides tell the same of any instructions.
  What the row's condition tells: the library's tables, cell by cell.
  One instruction's data, as a pure value.
  A struct of two cells that is handed in, as pure values.
-/
import Derived.Test.YtgbphddecpjlhaaGreatDoorMQ
import Derived.Test.YtgbphddecpjlhaaGreatDoorMN
import Derived.Test.YtgbphddecpjlhaaGreatDoorMG
import Derived.Test.YtgbphddecpjlhaaGreatDoorMP
import Derived.Test.YtgbphddecpjlhaaGreatDoorMH
import Derived.Test.YtgbphddecpjlhaaGreatDoorRows
import Derived.MakeChecks

section
set_option linter.unusedSimpArgs false
set_option linter.unusedVariables false
namespace Go.Proofs.YtgbphddecpjlhaaGreatDoor.N
open Go Go.Am

def rmP (tp tr lo : Int) (l : List Ins) : List PV := [.ps 3 2 [sP 1, sP 1, sP 0, sP 0, sP tp, sP tr], .ps 1 3 [bs [104, 111, 115, 116], bs [102], sP 0], .ps 2 3 [sP 1, sP 0, .ps 0 8 [], sP 2, sP lo, .ps l.length 8 (encL l)],
  .ps 1 3 [.sc (.int .u32 1), .sc (.int .u32 0), .sc (.bool false)], .ps 1 3 [.sc (.int .u32 1), .sc (.int .u32 0), .sc (.bool false)], .ps 2 2 [.sc (.bool true), .ps 1 8 con0, .sc (.bool false), .ps 1 8 con0], .ps 0 3 [], .sc (.bool false), .sc (.int .u32 0), .ps 0 2 [], .ps 0 2 []]
def isOne (l : List AV) : Bool := match l with
  | [_, .p (.sc (.int _ 1))] => true
  | [_, .p (.sc (.int _ (Int.ofNat (n + 1))))] => true
  | _ => false
def vkQ (tp tr lo ck e p : Int) (l : List Ins) (i : Nat) (f : FuncId) (args : List AV) (m : Mem) : Option (AV × Mem) := cond (Nat.beq f 15 || Nat.beq f 17) (some (sI .i64 ck, m)) (cond (Nat.beq f 95 || Nat.beq f 97) (some (sI .i64 0, m)) (cond (Nat.beq f 16 || Nat.beq f 19)
  (cond (isOne args) (some (.tup [sI .i64 e, sI .i64 p], m)) (some (.tup [sI .i64 0, sI .i64 0], m))) (cond (Nat.beq f 40 || Nat.beq f 41 || Nat.beq f 18) (some (sB true, m)) (cond (Nat.beq f 45) (some (.tup [sI .i64 0, sI .i64 0], m)) none))))
noncomputable def vkcOrc : Orc := orcL noCall noLed [] [(10, 0, 0), (43, 0, 2), (10, 0, 3)] []
noncomputable def vkcSc (tp tr lo ck e p : Int) (l : List Ins) : Sc := (.ans 15 (sI .i64 ck) ([]) (.fork .fin (.led 44 1 (vkQ tp tr lo ck e p l 1) (.lit (.lit (.led 46 1 (vkQ tp tr lo ck e p l 2) (.lit (.led 46 1 (vkQ tp tr lo ck e p l 3) (.lit (.lit (.lit (.lit (.led 47 1 (vkQ tp tr lo ck e p l 4) (.lit (.led 47 1 (vkQ tp tr lo ck e p l 5) (.lit (.lit (.lit (.lit (.lit (.ans 16 (.tup [sI .i64 0, sI .i64 0]) ([]) (.lit (.ans 16 (.tup [sI .i64 e, sI .i64 p]) ([]) (.fork (.yes .fin) (.lit (.lit .fin))))))))))))))))))))))))))
noncomputable def vkcTree (tp tr lo ck e p : Int) (l : List Ins) : Tree :=
 (.call ⟨15, [.agg (rmD tp tr lo l).cells], [], sI .i64 ck, []⟩
 (.test (ck != 0)
 (.out (.ret (.agg [sI .i64 ck, sI .i64 0, sI .i64 0, sI .i64 0]) []))
 (.call ⟨40, [sI .i64 0, .mp 0 0], [.pc (rmP tp tr lo l)], sB true, [.pc (rmP tp tr lo l)]⟩
 (.call ⟨45, [sB true, sI .i64 6], [], .tup [sI .i64 0, sI .i64 0], []⟩
 (.call ⟨40, [sI .i64 1, .mp 0 0], [.pc (rmP tp tr lo l)], sB true, [.pc (rmP tp tr lo l)]⟩
 (.call ⟨45, [sB true, sI .i64 6], [], .tup [sI .i64 0, sI .i64 0], []⟩
 (.call ⟨40, [sI .i64 2, .mp 0 0], [.pc (rmP tp tr lo l)], sB true, [.pc (rmP tp tr lo l)]⟩
 (.call ⟨45, [sB true, sI .i64 6], [], .tup [sI .i64 0, sI .i64 0], []⟩
 (.call ⟨41, [.p (.ps 1 8 [sP 65, sP 0, .sc (.int .u32 0), .sc (.int .u32 0), .sc (.int .i32 0), .ps 0 1 [], .ps 0 8 [], .ps 0 8 []])], [], sB true, []⟩
 (.call ⟨45, [sB true, sI .i64 210], [], .tup [sI .i64 0, sI .i64 0], []⟩
 (.call ⟨41, [.p (.ps 1 8 [sP 65, sP 0, .sc (.int .u32 0), .sc (.int .u32 0), .sc (.int .i32 0), .ps 0 1 [], .ps 0 8 [], .ps 0 8 []])], [], sB true, []⟩
 (.call ⟨45, [sB true, sI .i64 210], [], .tup [sI .i64 0, sI .i64 0], []⟩
 (.call ⟨16, [.agg (rmD tp tr lo l).cells, sI .i64 0], [], .tup [sI .i64 0, sI .i64 0], []⟩
 (.call ⟨16, [.agg (rmD tp tr lo l).cells, sI .i64 1], [], .tup [sI .i64 e, sI .i64 p], []⟩
 (.test (e != 0)
 (.must (e != 0)
 (.out (.ret (.agg [sI .i64 e, sI .i64 10, sI .i64 1, sI .i64 p]) [])))
 (.out (.ret (.agg [sI .i64 0, sI .i64 0, sI .i64 0, sI .i64 0]) [])))))))))))))))))
theorem vkc_tree (tp tr lo ck e p : Int) (l : List Ins) : growF Tryz.prog env vkcOrc 1000000 10 ([AV.agg (rmD tp tr lo l).cells]) ([]) (vkcSc tp tr lo ck e p l) = vkcTree tp tr lo ck e p l := by kernel_rfl

noncomputable def dkcOrc : Orc := orcL noCall noLed [] [(11, 0, 0), (24, 0, 2)] []
noncomputable def dkcSc (tp tr lo ck e p : Int) (l : List Ins) : Sc := (.ans 17 (sI .i64 ck) ([]) (.fork .fin (.led 21 4 (vkQ tp tr lo ck e p l 1) (.led 21 9 (vkQ tp tr lo ck e p l 2) (.led 21 9 (vkQ tp tr lo ck e p l 3) (.ans 97 (sI .i64 0) ([]) (.ans 97 (sI .i64 0) ([]) (.ans 19 (.tup [sI .i64 0, sI .i64 0]) ([]) (.lit (.ans 19 (.tup [sI .i64 e, sI .i64 p]) ([]) .fin))))))))))
noncomputable def dkcTree (tp tr lo ck e p : Int) (l : List Ins) : Tree :=
 (.call ⟨17, [.agg (rmD tp tr lo l).cells], [], sI .i64 ck, []⟩
 (.test (ck != 0)
 (.out (.ret (.agg [sI .i64 ck, sI .i64 0, sI .i64 0, sI .i64 0]) []))
 (.call ⟨18, [.agg (rmD tp tr lo l).cells, sI .i64 0], [], sB true, []⟩
 (.call ⟨18, [.agg (rmD tp tr lo l).cells, sI .i64 1], [], sB true, []⟩
 (.call ⟨18, [.agg (rmD tp tr lo l).cells, sI .i64 2], [], sB true, []⟩
 (.call ⟨97, [.p (.ps 1 8 [sP 65, sP 0, .sc (.int .u32 0), .sc (.int .u32 0), .sc (.int .i32 0), .ps 0 1 [], .ps 0 8 [], .ps 0 8 []])], [], sI .i64 0, []⟩
 (.call ⟨97, [.p (.ps 1 8 [sP 65, sP 0, .sc (.int .u32 0), .sc (.int .u32 0), .sc (.int .i32 0), .ps 0 1 [], .ps 0 8 [], .ps 0 8 []])], [], sI .i64 0, []⟩
 (.call ⟨19, [.agg (rmD tp tr lo l).cells, sI .i64 0], [], .tup [sI .i64 0, sI .i64 0], []⟩
 (.call ⟨19, [.agg (rmD tp tr lo l).cells, sI .i64 1], [], .tup [sI .i64 e, sI .i64 p], []⟩
 (.test (e != 0)
 (.out (.ret (.agg [sI .i64 e, sI .i64 10, sI .i64 1, sI .i64 p]) []))
 (.out (.ret (.agg [sI .i64 0, sI .i64 0, sI .i64 0, sI .i64 0]) []))))))))))))
theorem dkc_tree (tp tr lo ck e p : Int) (l : List Ins) : growF Tryz.prog env dkcOrc 1000000 11 ([AV.agg (rmD tp tr lo l).cells]) ([]) (dkcSc tp tr lo ck e p l) = dkcTree tp tr lo ck e p l := by kernel_rfl

noncomputable def tclOrc : Orc := orcL noCall noLed [] [] []
def tclSc : Sc := .fin
noncomputable def tclTree (tp tr lo n : Int) (l : List Ins) : Tree :=
 (.out (.ret (.p (.sc (.bool (decide (n < 3))))) [.pc (rmP tp tr lo l)]))
theorem tcl_tree (tp tr lo n : Int) (l : List Ins) : growF Tryz.prog env tclOrc 1000000 40 ([sI IntKind.i64 n, AV.mp 0 0]) ([Blk.pc (rmP tp tr lo l)]) tclSc = tclTree tp tr lo n l := by kernel_rfl

noncomputable def cclOrc : Orc := orcL noCall noLed [] [] []
noncomputable def cclSc : Sc := (.ans 95 (sI .i64 0) ([]) .fin)
noncomputable def cclTree : Tree :=
 (.call ⟨95, [.p (.ps 1 8 [sP 65, sP 0, .sc (.int .u32 0), .sc (.int .u32 0), .sc (.int .i32 0), .ps 0 1 [], .ps 0 8 [], .ps 0 8 []])], [], sI .i64 0, []⟩
 (.out (.ret (sB true) [])))
theorem ccl_tree : growF Tryz.prog env cclOrc 1000000 41 ([AV.p (PV.ps 1 8 con0)]) ([]) (cclSc) = cclTree := by kernel_rfl

noncomputable def ulsOrc : Orc := orcL noCall noLed [] [] []
def ulsSc : Sc := .fin
noncomputable def ulsTree (c : Int) : Tree :=
 (.out (.ret (.tup [sI .i64 0, sI .i64 0]) []))
theorem uls_tree (c : Int) : growF Tryz.prog env ulsOrc 1000000 45 ([sB true, sI IntKind.i64 c]) ([]) ulsSc = ulsTree c := by kernel_rfl

noncomputable def dtnOrc : Orc := orcL noCall noLed [] [(18, 2, 3)] []
def dtnSc : Sc := .fin
noncomputable def dtnTree (tp tr lo n : Int) (l : List Ins) : Tree :=
 (.test (decide (n ≥ 0))
 (.out (.ret (.p (.sc (.bool (decide (n < 3))))) []))
 (.out (.ret (sB false) [])))
theorem dtn_tree (tp tr lo n : Int) (l : List Ins) : growF Tryz.prog env dtnOrc 1000000 18 ([AV.agg (rmD tp tr lo l).cells, sI IntKind.i64 n]) ([]) dtnSc = dtnTree tp tr lo n l := by kernel_rfl

def rV0 (tp tr lo : Nat) : VEnv where
  ty := (rV tp tr lo).ty
  ind := (rV tp tr lo).ind
  glob := [true, false]
  mem := true
  own := 0
  ret := 0

theorem rV0_ok {tp tr lo : Nat} {l : List Ins} (h1 : tr ≤ 1) (h2 : tp ≤ 1000000) (h3 : lo ≤ 1000000) : VOk ⟨rmD tp tr lo l, 0, 0, 0⟩ (rV0 tp tr lo) where
  ret := rfl
  ret1 := Nat.zero_le 1
  own := rfl
  own1 := Nat.zero_le _
  ty := (rV_ok (l := l) h1 h2 h3).ty
  tyN := (rV_ok (l := l) h1 h2 h3).tyN
  ind := (rV_ok (l := l) h1 h2 h3).ind
  glN := rfl
  glM := (rV_ok (l := l) h1 h2 h3).glM
  gl := (rV_ok (l := l) h1 h2 h3).gl
  me := rfl

theorem fitNil : Fit [] 0 1 := fit_of trivial rfl

theorem body0 (tp tr lo : Nat) : bodyV (rV0 tp tr lo) [] = (0, 0) := rfl

theorem rlook0 {tp tr lo : Nat} {l : List Ins} (h1 : tr ≤ 1) (h2 : tp ≤ 1000000) (h3 : lo ≤ 1000000) :
    Does Tryz.prog env 16 [.agg (rmD tp tr lo l).cells, sI .i64 0] [] (.tup [sI .i64 0, sI .i64 0]) [] := by
  have hty := (rV_ok (l := l) h1 h2 h3).ty 1 (of_decide_eq_true rfl)
  have := look_does (X := ⟨rmD tp tr lo l, 0, 0, 0⟩) (rV0_ok h1 h2 h3) (n := 0) (lo := 0) (l := []) (of_decide_eq_true rfl) (of_decide_eq_true rfl) (of_decide_eq_true rfl) rfl rfl ⟨Int.le_refl 0, of_decide_eq_true rfl⟩ ⟨Int.le_refl 0, by decide⟩ rfl hty.2 fitNil
  rw [body0] at this
  exact this

def rJ0 (tp tr lo : Nat) (l : List Ins) : Jd := ⟨rmD tp tr lo l, 0, 0, 0, []⟩

theorem rJ0_ok {tp tr lo : Nat} {l : List Ins} (h1 : tr ≤ 1) (h2 : tp ≤ 1000000) (h3 : lo ≤ 1000000) : JOk (rJ0 tp tr lo l) (rV0 tp tr lo) where
  v := rV0_ok h1 h2 h3
  ty := (rJ_ok (l := l) h1 h2 h3).ty
  indP := (rJ_ok (l := l) h1 h2 h3).indP
  lab k hk := by cases hk
  len := by show 0 ≤ _; omega

theorem rV0_le {tp tr lo : Nat} (h1 : tr ≤ 1) : VLe (rV0 tp tr lo) where
  ret := Nat.zero_le 1
  ty := (rV_le (tp := tp) (lo := lo) h1).ty
  ind := (rV_le (tp := tp) (lo := lo) h1).ind

theorem rbody0 {tp tr lo : Nat} {l : List Ins} (h1 : tr ≤ 1) (h2 : tp ≤ 1000000) (h3 : lo ≤ 1000000) :
    Does Tryz.prog env 19 [.agg (rmD tp tr lo l).cells, sI .i64 0] [] (.tup [sI .i64 0, sI .i64 0]) [] := by
  have := jbody_does (J := rJ0 tp tr lo l) (rJ0_ok h1 h2 h3) (rV0_le h1) rfl (n := 0) (T := 1) (lo := 0) (P := 0) (l := []) (of_decide_eq_true rfl) (of_decide_eq_true rfl) rfl rfl rfl (of_decide_eq_true rfl) rfl rfl ⟨Int.le_refl 0, of_decide_eq_true rfl⟩ ⟨Int.le_refl 0, by decide⟩ rfl fitNil
  rw [body0] at this
  exact this

theorem typed_does (tp tr lo n : Int) (l : List Ins) (h : n < 3) : Does Tryz.prog env 40 [sI .i64 n, .mp 0 0] [.pc (rmP tp tr lo l)] (sB true) [.pc (rmP tp tr lo l)] := by
  have := does_of_tree names (tcl_tree tp tr lo n l) rfl
  rw [decide_eq_true h] at this
  exact this

theorem const_does : Does Tryz.prog env 41 [.p (.ps 1 8 con0)] [] (sB true) [] := by
  have c2 := chkP [.mk 65 0 0 0 0 [] [] []] (by decide)
  rw [ckCon, conIns_eq] at c2
  refine does_of_tree names ccl_tree ?_
  simp only [cclTree, Tree.ok]
  exact ⟨c2, trivial⟩

theorem unless_does (c : Int) : Does Tryz.prog env 45 [sB true, sI .i64 c] [] (.tup [sI .i64 0, sI .i64 0]) [] := does_of_tree names (uls_tree c) rfl

theorem rtyp_does (tp tr lo n : Int) (l : List Ins) (h : 0 ≤ n ∧ n < 3) : Does Tryz.prog env 18 [.agg (rmD tp tr lo l).cells, sI .i64 n] [] (sB true) [] := by
  refine does_of_tree names (dtn_tree tp tr lo n l) ?_
  simp [dtnTree, Tree.ok]
  omega

def wrG (tp tr lo : Int) (l : List Ins) : Int × Int × Int × Int :=
  if mcG tp tr lo (checkF mayI l) ≠ 0 then (mcG tp tr lo (checkF mayI l), 0, 0, 0)
  else if (bodG tp tr lo l).1 ≠ 0 then ((bodG tp tr lo l).1, 10, 1, ((bodG tp tr lo l).2 : Nat)) else (0, 0, 0, 0)
abbrev wrA (w : Int × Int × Int × Int) : AV := .agg [sI .i64 w.1, sI .i64 w.2.1, sI .i64 w.2.2.1, sI .i64 w.2.2.2]

theorem vchk_does (tp tr lo : Int) {l : List Ins} (h : numL l ≤ 100000000000) (hw : wfL l) : Does Tryz.prog env 10 [.agg (rmD tp tr lo l).cells] [] (wrA (wrG tp tr lo l)) [] := by
  have hm := mgc_does tp tr lo h
  refine does_of_tree names (vkc_tree tp tr lo (mcG tp tr lo (checkF mayI l)) (bodG tp tr lo l).1 ((bodG tp tr lo l).2 : Nat) l) ?_
  simp only [vkcTree, Tree.ok]
  refine ⟨hm, fun q => ?_, fun q => ?_⟩
  · have q : mcG tp tr lo (checkF mayI l) ≠ 0 := by simpa using q
    rw [wrG, if_pos q]
  · have q : mcG tp tr lo (checkF mayI l) = 0 := by simpa using q
    have hb : bodG tp tr lo l = bodyV (rV tp.toNat tr.toNat lo.toNat) l := by unfold bodG; rw [if_neg (by simpa using q)]
    rw [wrG, if_neg (by simpa using q), hb]
    obtain ⟨⟨a1, a2, a3, a4⟩, ⟨a5, a6⟩, a7⟩ := mcG_inv q
    obtain ⟨tp, rfl⟩ := Int.eq_ofNat_of_zero_le a1
    obtain ⟨tr, rfl⟩ := Int.eq_ofNat_of_zero_le a3
    obtain ⟨lo, rfl⟩ := Int.eq_ofNat_of_zero_le a5
    simp only [Int.toNat_natCast]
    refine ⟨typed_does _ _ _ 0 _ (by decide), unless_does _, typed_does _ _ _ 1 _ (by decide), unless_does _, typed_does _ _ _ 2 _ (by decide), unless_does _, const_does, unless_does _, const_does, unless_does _, rlook0 (by omega) (by omega) (by omega), rlook (by omega) (by omega) (by omega) (fit_of hw a7), fun q2 => ?_, fun q2 => ?_⟩
    · rw [if_pos (by simpa using q2)]; exact ⟨q2, rfl⟩
    · rw [if_neg (by simpa using q2)]

theorem dchk_does (tp tr lo : Int) {l : List Ins} (h : numL l ≤ 100000000000) (hw : wfL l) : Does Tryz.prog env 11 [.agg (rmD tp tr lo l).cells] [] (wrA (wrG tp tr lo l)) [] := by
  have hm := dgc_does tp tr lo h
  have c2 := rcheck_does rightI_does [.mk 65 0 0 0 0 [] [] []] (by decide)
  rw [ckCon, conIns_eq] at c2
  refine does_of_tree names (dkc_tree tp tr lo (mcG tp tr lo (checkF mayI l)) (bodG tp tr lo l).1 ((bodG tp tr lo l).2 : Nat) l) ?_
  simp only [dkcTree, Tree.ok]
  refine ⟨hm, fun q => ?_, fun q => ?_⟩
  · have q : mcG tp tr lo (checkF mayI l) ≠ 0 := by simpa using q
    rw [wrG, if_pos q]
  · have q : mcG tp tr lo (checkF mayI l) = 0 := by simpa using q
    have hb : bodG tp tr lo l = bodyV (rV tp.toNat tr.toNat lo.toNat) l := by unfold bodG; rw [if_neg (by simpa using q)]
    rw [wrG, if_neg (by simpa using q), hb]
    obtain ⟨⟨a1, a2, a3, a4⟩, ⟨a5, a6⟩, a7⟩ := mcG_inv q
    obtain ⟨tp, rfl⟩ := Int.eq_ofNat_of_zero_le a1
    obtain ⟨tr, rfl⟩ := Int.eq_ofNat_of_zero_le a3
    obtain ⟨lo, rfl⟩ := Int.eq_ofNat_of_zero_le a5
    simp only [Int.toNat_natCast]
    refine ⟨rtyp_does _ _ _ 0 _ (by decide), rtyp_does _ _ _ 1 _ (by decide), rtyp_does _ _ _ 2 _ (by decide), c2, c2, rbody0 (by omega) (by omega) (by omega), rbody (by omega) (by omega) (by omega) (fit_of hw a7), fun q2 => ?_, fun q2 => ?_⟩
    · rw [if_pos (by simpa using q2)]
    · rw [if_neg (by simpa using q2)]

end Go.Proofs.YtgbphddecpjlhaaGreatDoor.N
end

section
set_option linter.unusedSimpArgs false
set_option linter.unusedVariables false
namespace Go.Proofs.YtgbphddecpjlhaaGreatDoor.N
open Go Go.Am
def insCall (_ : List Ins) (_ _ _ : Int) (R : List AV → Int) (f : FuncId) (args : List AV) (m : Mem) : Option (AV × Mem) := cond (Nat.beq f 6) (some (sI .i64 (R args), m)) none

noncomputable def icnOrc : Orc := orcL noCall noLed [(6, 0)] [] []
def icnSc : Sc := .fin
noncomputable def icnTree (l : List Ins) (most : Int) : Tree :=
 (.at (bodyCfg Tryz.prog env 6 0 [.p (.ps l.length 8 (encL l)), sI .i64 most, sI .i64 0, sI .i64 0] ([]) 0 58))
theorem icn_tree (l : List Ins) (most : Int) : growF Tryz.prog env icnOrc 1000000 6 ([aL l, sI IntKind.i64 most]) ([]) icnSc = icnTree l most := by kernel_rfl

noncomputable def icnlOrc (l : List Ins) (most n i : Int) (R : List AV → Int) : Orc := orcL (insCall l most n i R) noLed [(6, 0)] [(6, 4, 5), (6, 0, 1), (6, 0, 2), (6, 0, 3)] [(6, 6, 4), (6, 6, 6), (6, 8, 3), (6, 8, 5), (6, 10, 3), (6, 10, 5)]
def icnlSc : Sc := (.fork (.fork (.fork .fin (.no .fin)) .fin) (.lit .fin))
noncomputable def icnlTree (l : List Ins) (most n i : Int) (R : List AV → Int) : Tree :=
 (.test (decide (i < (↑l.length : Int)))
 (.test (decide (n ≤ most))
 (.must (inB i l.length && true && true)
 (.must (isPs ((encL l).getD (i.toNat * 8 + 5) PV.bad) && true)
 (.test (decide (IntKind.i64.wrap (IntKind.i64.wrap (n + 1) + bif true then Min.min (↑(psLen ((encL l).getD (i.toNat * 8 + 5) PV.bad)) : Int) most else Max.max (↑(psLen ((encL l).getD (i.toNat * 8 + 5) PV.bad)) : Int) most) ≤ most))
 (.must (inB i l.length && true && true)
 (.must (isPs ((encL l).getD (i.toNat * 8 + 6) PV.bad) && true)
 (.call ⟨6, [.p (.ps (psLen ((encL l).getD (i.toNat * 8 + 6) PV.bad)) (psSz ((encL l).getD (i.toNat * 8 + 6) PV.bad)) (psCells ((encL l).getD (i.toNat * 8 + 6) PV.bad))), sI .i64 (IntKind.i64.wrap (most - IntKind.i64.wrap (IntKind.i64.wrap (n + 1) + bif true then Min.min (↑(psLen ((encL l).getD (i.toNat * 8 + 5) PV.bad)) : Int) most else Max.max (↑(psLen ((encL l).getD (i.toNat * 8 + 5) PV.bad)) : Int) most)))], [], sI .i64 (R [.p (.ps (psLen ((encL l).getD (i.toNat * 8 + 6) PV.bad)) (psSz ((encL l).getD (i.toNat * 8 + 6) PV.bad)) (psCells ((encL l).getD (i.toNat * 8 + 6) PV.bad))), .p (sP (IntKind.i64.wrap (most - IntKind.i64.wrap (IntKind.i64.wrap (n + 1) + bif true then Min.min (↑(psLen ((encL l).getD (i.toNat * 8 + 5) PV.bad)) : Int) most else Max.max (↑(psLen ((encL l).getD (i.toNat * 8 + 5) PV.bad)) : Int) most))))]), []⟩
 (.test (decide (IntKind.i64.wrap (IntKind.i64.wrap (IntKind.i64.wrap (n + 1) + bif true then Min.min (↑(psLen ((encL l).getD (i.toNat * 8 + 5) PV.bad)) : Int) most else Max.max (↑(psLen ((encL l).getD (i.toNat * 8 + 5) PV.bad)) : Int) most) + R [.p (.ps (psLen ((encL l).getD (i.toNat * 8 + 6) PV.bad)) (psSz ((encL l).getD (i.toNat * 8 + 6) PV.bad)) (psCells ((encL l).getD (i.toNat * 8 + 6) PV.bad))), sI .i64 (IntKind.i64.wrap (most - IntKind.i64.wrap (IntKind.i64.wrap (n + 1) + bif true then Min.min (↑(psLen ((encL l).getD (i.toNat * 8 + 5) PV.bad)) : Int) most else Max.max (↑(psLen ((encL l).getD (i.toNat * 8 + 5) PV.bad)) : Int) most)))]) ≤ most))
 (.must (inB i l.length && true && true)
 (.must (isPs ((encL l).getD (i.toNat * 8 + 7) PV.bad) && true)
 (.call ⟨6, [.p (.ps (psLen ((encL l).getD (i.toNat * 8 + 7) PV.bad)) (psSz ((encL l).getD (i.toNat * 8 + 7) PV.bad)) (psCells ((encL l).getD (i.toNat * 8 + 7) PV.bad))), sI .i64 (IntKind.i64.wrap (most - IntKind.i64.wrap (IntKind.i64.wrap (IntKind.i64.wrap (n + 1) + bif true then Min.min (↑(psLen ((encL l).getD (i.toNat * 8 + 5) PV.bad)) : Int) most else Max.max (↑(psLen ((encL l).getD (i.toNat * 8 + 5) PV.bad)) : Int) most) + R [.p (.ps (psLen ((encL l).getD (i.toNat * 8 + 6) PV.bad)) (psSz ((encL l).getD (i.toNat * 8 + 6) PV.bad)) (psCells ((encL l).getD (i.toNat * 8 + 6) PV.bad))), .p (sP (IntKind.i64.wrap (most - IntKind.i64.wrap (IntKind.i64.wrap (n + 1) + bif true then Min.min (↑(psLen ((encL l).getD (i.toNat * 8 + 5) PV.bad)) : Int) most else Max.max (↑(psLen ((encL l).getD (i.toNat * 8 + 5) PV.bad)) : Int) most))))])))], [], sI .i64 (R [.p (.ps (psLen ((encL l).getD (i.toNat * 8 + 7) PV.bad)) (psSz ((encL l).getD (i.toNat * 8 + 7) PV.bad)) (psCells ((encL l).getD (i.toNat * 8 + 7) PV.bad))), .p (sP (IntKind.i64.wrap (most - IntKind.i64.wrap (IntKind.i64.wrap (IntKind.i64.wrap (n + 1) + bif true then Min.min (↑(psLen ((encL l).getD (i.toNat * 8 + 5) PV.bad)) : Int) most else Max.max (↑(psLen ((encL l).getD (i.toNat * 8 + 5) PV.bad)) : Int) most) + R [.p (.ps (psLen ((encL l).getD (i.toNat * 8 + 6) PV.bad)) (psSz ((encL l).getD (i.toNat * 8 + 6) PV.bad)) (psCells ((encL l).getD (i.toNat * 8 + 6) PV.bad))), sI .i64 (IntKind.i64.wrap (most - IntKind.i64.wrap (IntKind.i64.wrap (n + 1) + bif true then Min.min (↑(psLen ((encL l).getD (i.toNat * 8 + 5) PV.bad)) : Int) most else Max.max (↑(psLen ((encL l).getD (i.toNat * 8 + 5) PV.bad)) : Int) most)))]))))]), []⟩
 (.at (bodyCfg Tryz.prog env 6 0 [.p (.ps l.length 8 (encL l)), sI .i64 most, sI .i64 (IntKind.i64.wrap (IntKind.i64.wrap (IntKind.i64.wrap (IntKind.i64.wrap (n + 1) + bif true then Min.min (↑(psLen ((encL l).getD (i.toNat * 8 + 5) PV.bad)) : Int) most else Max.max (↑(psLen ((encL l).getD (i.toNat * 8 + 5) PV.bad)) : Int) most) + R [.p (.ps (psLen ((encL l).getD (i.toNat * 8 + 6) PV.bad)) (psSz ((encL l).getD (i.toNat * 8 + 6) PV.bad)) (psCells ((encL l).getD (i.toNat * 8 + 6) PV.bad))), .p (sP (IntKind.i64.wrap (most - IntKind.i64.wrap (IntKind.i64.wrap (n + 1) + bif true then Min.min (↑(psLen ((encL l).getD (i.toNat * 8 + 5) PV.bad)) : Int) most else Max.max (↑(psLen ((encL l).getD (i.toNat * 8 + 5) PV.bad)) : Int) most))))]) + R [.p (.ps (psLen ((encL l).getD (i.toNat * 8 + 7) PV.bad)) (psSz ((encL l).getD (i.toNat * 8 + 7) PV.bad)) (psCells ((encL l).getD (i.toNat * 8 + 7) PV.bad))), .p (sP (IntKind.i64.wrap (most - IntKind.i64.wrap (IntKind.i64.wrap (IntKind.i64.wrap (n + 1) + bif true then Min.min (↑(psLen ((encL l).getD (i.toNat * 8 + 5) PV.bad)) : Int) most else Max.max (↑(psLen ((encL l).getD (i.toNat * 8 + 5) PV.bad)) : Int) most) + R [.p (.ps (psLen ((encL l).getD (i.toNat * 8 + 6) PV.bad)) (psSz ((encL l).getD (i.toNat * 8 + 6) PV.bad)) (psCells ((encL l).getD (i.toNat * 8 + 6) PV.bad))), sI .i64 (IntKind.i64.wrap (most - IntKind.i64.wrap (IntKind.i64.wrap (n + 1) + bif true then Min.min (↑(psLen ((encL l).getD (i.toNat * 8 + 5) PV.bad)) : Int) most else Max.max (↑(psLen ((encL l).getD (i.toNat * 8 + 5) PV.bad)) : Int) most)))]))))])), sI .i64 (IntKind.i64.wrap (i + 1))] ([]) 0 58)))))
 (.at (bodyCfg Tryz.prog env 6 0 [.p (.ps l.length 8 (encL l)), sI .i64 most, sI .i64 (IntKind.i64.wrap (IntKind.i64.wrap (IntKind.i64.wrap (n + 1) + bif true then Min.min (↑(psLen ((encL l).getD (i.toNat * 8 + 5) PV.bad)) : Int) most else Max.max (↑(psLen ((encL l).getD (i.toNat * 8 + 5) PV.bad)) : Int) most) + R [.p (.ps (psLen ((encL l).getD (i.toNat * 8 + 6) PV.bad)) (psSz ((encL l).getD (i.toNat * 8 + 6) PV.bad)) (psCells ((encL l).getD (i.toNat * 8 + 6) PV.bad))), .p (sP (IntKind.i64.wrap (most - IntKind.i64.wrap (IntKind.i64.wrap (n + 1) + bif true then Min.min (↑(psLen ((encL l).getD (i.toNat * 8 + 5) PV.bad)) : Int) most else Max.max (↑(psLen ((encL l).getD (i.toNat * 8 + 5) PV.bad)) : Int) most))))])), sI .i64 (IntKind.i64.wrap (i + 1))] ([]) 0 58))))))
 (.must (!(decide (IntKind.i64.wrap (IntKind.i64.wrap (n + 1) + bif true then Min.min (↑(psLen ((encL l).getD (i.toNat * 8 + 5) PV.bad)) : Int) most else Max.max (↑(psLen ((encL l).getD (i.toNat * 8 + 5) PV.bad)) : Int) most) ≤ most)))
 (.at (bodyCfg Tryz.prog env 6 0 [.p (.ps l.length 8 (encL l)), sI .i64 most, sI .i64 (IntKind.i64.wrap (IntKind.i64.wrap (n + 1) + bif true then Min.min (↑(psLen ((encL l).getD (i.toNat * 8 + 5) PV.bad)) : Int) most else Max.max (↑(psLen ((encL l).getD (i.toNat * 8 + 5) PV.bad)) : Int) most)), sI .i64 (IntKind.i64.wrap (i + 1))] ([]) 0 58))))))
 (.out (.ret (sI .i64 n) [])))
 (.out (.ret (sI .i64 n) [])))
theorem icnl_tree (l : List Ins) (most n i : Int) (R : List AV → Int) : grow Tryz.prog env (icnlOrc l most n i R) 1000000 true (bodyCfg Tryz.prog env 6 0 ([aL l, sI IntKind.i64 most, sI IntKind.i64 n, sI IntKind.i64 i]) ([]) 0 58) icnlSc atEnd = icnlTree l most n i R := by kernel_rfl

theorem instrs_loop (R : List AV → Int) (hR : ∀ l most, R [aL l, sI .i64 most] = insF l most 0) (l : List Ins) (most : Int) (h0 : 0 ≤ most) (hm : most ≤ 1000000000000) (hl : l.length ≤ maxLen)
    (IH : ∀ x ∈ l, ∀ m' : Int, 0 ≤ m' → m' ≤ most → Does Tryz.prog env 6 [aL x.l, sI .i64 m'] [] (sI .i64 (insF x.l m' 0)) [] ∧ Does Tryz.prog env 6 [aL x.e, sI .i64 m'] [] (sI .i64 (insF x.e m' 0)) []) :
    ∀ (r k : Nat) (n : Int), k + r = l.length → 0 ≤ n → n ≤ 2 * most + 1 → Am.Good Tryz.prog env (bodyCfg Tryz.prog env 6 0 [aL l, sI .i64 most, sI .i64 n, sI .i64 k] [] 0 58) (.ret (sI .i64 (insF (l.drop k) most n)) []) := by
  intro r
  induction r with
  | zero =>
    intro k n hk hn0 hn
    refine good_of_tree names (icnl_tree l most n k R) ?_
    have h1 : l.drop k = [] := List.drop_eq_nil_of_le (by omega)
    have h2 : ¬ ((k : Int) < l.length) := by omega
    simp [icnlTree, Tree.ok, h1, h2, insF]
  | succ r ih =>
    intro k n hk hn0 hn
    refine good_of_tree names (icnl_tree l most n k R) ?_
    have hkl : k < l.length := by omega
    have hgx : l[k]? = some l[k] := List.getElem?_eq_getElem hkl
    have hmem : l[k] ∈ l := List.getElem_mem hkl
    have hd : l.drop k = l[k] :: l.drop (k + 1) := List.drop_eq_getElem_cons hkl
    rw [hd]
    generalize l[k] = x at *
    obtain ⟨op, rs, a, b, nn, tags, ll, le⟩ := x
    have hc := encL_getD hgx
    have c5 : (encL l).getD (k * 8 + 5) .bad = .ps tags.length 1 (encT .u32 tags) := hc 5 (by omega)
    have c6 : (encL l).getD (k * 8 + 6) .bad = .ps ll.length 8 (encL ll) := hc 6 (by omega)
    have c7 : (encL l).getD (k * 8 + 7) .bad = .ps le.length 8 (encL le) := hc 7 (by omega)
    have hML : maxLen = 9223372036854775807 := rfl
    have hw : IntKind.i64.wrap ((k : Int) + 1) = ((k + 1 : Nat) : Int) := by rw [i64In (by omega) (by omega)]; rfl
    have hw1 : IntKind.i64.wrap (n + 1) = n + 1 := i64In (by omega) (by omega)
    have hkI : (k : Int) < (l.length : Int) := by omega
    simp only [icnlTree, Tree.ok, c5, c6, c7, psLen, psSz, psCells, isPs, Int.toNat_natCast, inB, cond_true, hw, hw1]
    refine ⟨fun _ => ⟨fun hnm => ⟨by simp [hkI], rfl, ?_⟩, fun hnm => ?_⟩, fun h => absurd hkI (by simpa using h)⟩
    · have hnm : n ≤ most := by simpa using hnm
      have hIH := IH _ hmem
      simp only [insF, if_pos hnm, insX, Ins.l, Ins.e] at hIH ⊢
      generalize hn1 : n + 1 + min (tags.length : Int) most = n1
      have hr1 : 0 ≤ n1 ∧ n1 ≤ 2 * most + 1 := by omega
      have hw2 : IntKind.i64.wrap n1 = n1 := i64In (by omega) (by omega)
      simp only [hw2]
      have hw3 : IntKind.i64.wrap (most - n1) = most - n1 := i64In (by omega) (by omega)
      simp only [hw3, hR]
      refine ⟨fun h1 => ?_, fun h1 => ?_⟩
      · have h1 : n1 ≤ most := by simpa using h1
        rw [if_pos h1]
        have hb := insF_range ll (most - n1) 0 (by omega) (by omega) (by omega)
        have hw4 : IntKind.i64.wrap (n1 + insF ll (most - n1) 0) = n1 + insF ll (most - n1) 0 := i64In (by omega) (by omega)
        refine ⟨by simp [hkI], rfl, (hIH (most - n1) (by omega) (by omega)).1, ?_⟩
        simp only [hw4]
        generalize hn2 : n1 + insF ll (most - n1) 0 = n2
        have hr2 : 0 ≤ n2 ∧ n2 ≤ 2 * most + 1 := by omega
        have hw5 : IntKind.i64.wrap (most - n2) = most - n2 := i64In (by omega) (by omega)
        simp only [hw5]
        refine ⟨fun h2 => ?_, fun h2 => ?_⟩
        · have h2 : n2 ≤ most := by simpa using h2
          rw [if_pos h2]
          have hb2 := insF_range le (most - n2) 0 (by omega) (by omega) (by omega)
          have hw6 : IntKind.i64.wrap (n2 + insF le (most - n2) 0) = n2 + insF le (most - n2) 0 := i64In (by omega) (by omega)
          refine ⟨by simp [hkI], rfl, (hIH (most - n2) (by omega) (by omega)).2, ?_⟩
          simp only [hw6]
          exact ih (k + 1) _ (by omega) (by omega) (by omega)
        · have h2 : ¬ n2 ≤ most := by simpa using h2
          rw [if_neg h2]
          exact ih (k + 1) n2 (by omega) (by omega) (by omega)
      · have h1 : ¬ n1 ≤ most := by simpa using h1
        rw [if_neg h1, if_neg h1]
        refine ⟨by simpa using h1, ?_⟩
        exact ih (k + 1) n1 (by omega) (by omega) (by omega)
    · have hnm : ¬ n ≤ most := by simpa using hnm
      simp only [insF, if_neg hnm]

theorem aL_inj {l m : List Ins} (h : aL l = aL m) : l = m := by
  simp only [AV.p.injEq, PV.ps.injEq] at h
  exact encL_inj h.2.2

open Classical in
noncomputable def insR (args : List AV) : Int := if h : ∃ l most, args = [aL l, sI .i64 most] then insF h.choose h.choose_spec.choose 0 else 0

theorem insR_eq (l : List Ins) (most : Int) : insR [aL l, sI .i64 most] = insF l most 0 := by
  have h : ∃ l' most', [aL l, sI .i64 most] = [aL l', sI .i64 most'] := ⟨l, most, rfl⟩
  have e := h.choose_spec.choose_spec
  unfold insR
  rw [dif_pos h]
  have e1 := aL_inj (List.cons.inj e).1
  have e2 : most = h.choose_spec.choose := by
    have := (List.cons.inj (List.cons.inj e).2).1
    simpa only [AV.p.injEq, PV.sc.injEq, Value.int.injEq, true_and] using this
  have e : (h.choose, h.choose_spec.choose) = (l, most) := by rw [Prod.mk.injEq]; exact ⟨e1.symm, e2.symm⟩
  exact congrArg (fun q : List Ins × Int => insF q.1 q.2 0) e

theorem instrs_does : ∀ (N : Nat) (l : List Ins) (most : Int), cntL l ≤ N → l.length ≤ maxLen → wfL l → 0 ≤ most → most ≤ 1000000000000 → Does Tryz.prog env 6 [aL l, sI .i64 most] [] (sI .i64 (insF l most 0)) []
  | N, l, most, hN, hl, hw, h0, hm => by
    have IH : ∀ x ∈ l, ∀ m' : Int, 0 ≤ m' → m' ≤ most → Does Tryz.prog env 6 [aL x.l, sI .i64 m'] [] (sI .i64 (insF x.l m' 0)) [] ∧ Does Tryz.prog env 6 [aL x.e, sI .i64 m'] [] (sI .i64 (insF x.e m' 0)) [] := by
      intro x hx m' h0' hm'
      have hc := cntL_mem hx
      have hwx := Go.Am.wfL_mem hw hx
      obtain ⟨op, rs, a, b, nn, tags, ll, le⟩ := x
      simp only [cntI] at hc
      simp only [wfI] at hwx
      match N, hN with
      | 0, hN => omega
      | N + 1, hN => exact ⟨instrs_does N ll m' (by omega) hwx.2.2.2.2.2.2.1.1 hwx.2.2.2.2.2.2.1.2 h0' (by omega), instrs_does N le m' (by omega) hwx.2.2.2.2.2.2.2.1 hwx.2.2.2.2.2.2.2.2 h0' (by omega)⟩
    refine does_of_tree names (icn_tree l most) ?_
    have h := instrs_loop insR insR_eq l most h0 hm hl IH l.length 0 0 (by omega) (by omega) (by omega)
    rw [List.drop_zero] at h
    exact h

end Go.Proofs.YtgbphddecpjlhaaGreatDoor.N
end

section
set_option linter.unusedSimpArgs false
set_option linter.unusedVariables false
namespace Go.Proofs.YtgbphddecpjlhaaGreatDoor.N
open Go Go.Am

end Go.Proofs.YtgbphddecpjlhaaGreatDoor.N
end

section
set_option linter.unusedVariables false
namespace Go.Am
open Go.RowKit

def heapG (w : World) : Gh := bare fun c o => ∃ v, w.cell? ⟨c, o, none⟩ = some v

def Rd (m : Mem) (a b : AV) : Prop := ∀ (g : Gh) (w : World) (v : Value), Rel g m w → VA g w a v → VA (heapG w) w b v

section
variable {P : Program} {E : Env} {g : Gh} {m : Mem} {w : World}

theorem VP.all (h : Rel g m w) {x : PV} {v : Value} (hv : VP g w x v) : VP (heapG w) w x v := hv.mono fun c o p => ⟨h.there c o p, rfl⟩

theorem Rd.p {x y : PV} (h : Ple x y) : Rd m (.p x) (.p y) := fun g w v hr hv => by
  cases hv with
  | p _ _ hv => exact .p _ _ (h _ _ _ (hv.all hr))

theorem Rd.os {tok : Option Nat} {n z : Nat} {cs : List PV} {y : PV} (h : Ple (.ps n z cs) y) : Rd m (.os tok n z cs) (.p y) := fun g w v hr hv => by
  cases hv with
  | os _ _ _ _ a cap hv _ => exact .p _ _ (h _ _ _ (hv.all hr))

theorem Rd.list {l l' : List AV} (h : All2 (Rd m) l l') {vs : List Value} (hr : Rel g m w) (hv : VAs g w l vs) : VAs (heapG w) w l' vs := by
  induction l generalizing l' vs with
  | nil => cases l' <;> cases vs <;> first | trivial | exact h.elim | exact hv.elim
  | cons a l ih =>
    cases l' with
    | nil => exact h.elim
    | cons b l' => cases vs with
      | nil => exact hv.elim
      | cons x vs => exact ⟨h.1 g w x hr hv.1, ih h.2 hv.2⟩

theorem Rd.agg {l l' : List AV} (h : All2 (Rd m) l l') : Rd m (.agg l) (.agg l') := fun g w v hr hv => by
  cases hv with
  | agg _ cs hl hc => exact VA.aggs.2 (Rd.list h hr (All2.of_get hl hc))

theorem Rd.ms {b n z : Nat} {t : TypeId} {q : Bool} {X Y : List PV} (hb : m[b]? = some (.ob (.gr t q) (X.map .p))) (hX : PleL X Y) (hn : Y.length = n * z) (hz : 1 ≤ z) : Rd m (.ms b 0 n z none) (.p (.ps n z Y)) := fun g w v hr hv => by
  cases hv with
  | mg _ _ _ _ cap c h hc hh =>
    obtain ⟨c', ob, vs, h1, h2, h3, h4, h5, h6⟩ := hr.obs b _ _ hb
    rw [h] at h1
    obtain rfl := Option.some.inj h1
    obtain ⟨cs, e, fr, rfl, rfl, _, k1, k2, k3⟩ := h4
    have l1 : X.length = Y.length := All2.len hX
    have l2 : X.length = vs.length := by have := All2.len h3; simpa using this
    have hcell : ∀ k, w.cell? ⟨c, k, none⟩ = cs[k]? := fun k => by simp [World.cell?, h2]
    have hk : ∀ k (hk : k < Y.length), ∃ u, cs[k]? = some u ∧ u.oneCell' = true ∧ VP (heapG w) w Y[k] u := by
      intro k hk
      have hkc : k < cs.size := by omega
      refine ⟨cs[k], Array.getElem?_eq_getElem hkc, k3 _ (by simp), ?_⟩
      have hv := All2.get h3 k (by simp; omega) (by omega)
      have e1 : vs[k]'(by omega) = cs[k] := by
        have : vs[k]? = (cs.toList.take vs.length)[k]? := by rw [← k1]
        rw [List.getElem?_take_of_lt (by omega), List.getElem?_eq_getElem (by omega)] at this
        simpa [hkc] using this
      rw [e1] at hv
      simp only [List.getElem_map] at hv
      cases hv with
      | p _ _ hv => exact All2.get hX k (by omega) hk _ _ _ (hv.all hr)
    refine .p _ _ (.ps n z Y c 0 cap (fun k => cs.getD k default) hn hc hz (fun k hk' => ?_) fun k hk' => ?_)
    · obtain ⟨u, u1, u2, u3⟩ := hk k hk'
      have e2 : cs.getD k default = u := by
        obtain ⟨q1, q2⟩ := Array.getElem?_eq_some_iff.1 u1
        simp [Array.getD, q1, q2]
      rw [e2, Nat.zero_add, hcell]
      exact ⟨⟨u, by rw [hcell]; exact u1⟩, u1, u2⟩
    · obtain ⟨u, u1, u2, u3⟩ := hk k hk'
      have e2 : cs.getD k default = u := by
        obtain ⟨q1, q2⟩ := Array.getElem?_eq_some_iff.1 u1
        simp [Array.getD, q1, q2]
      rw [e2]
      exact u3

theorem Rel.later (h : Rel g m w) {w' : World} (hk : ∀ c, c < w.heap.size → w'.heap[c]? = w.heap[c]?) : Rel g m w' := by
  have hp : ∀ c o, g.pure c o → g.pure c o ∧ w'.cell? ⟨c, o, none⟩ = w.cell? ⟨c, o, none⟩ := fun c o p => ⟨p, World.cell?_of_block (hk c (h.pure_lt p))⟩
  have ext : Ext g w g w' := ⟨fun i c e => ⟨e, rfl, rfl⟩, hp⟩
  have at' : ∀ {c : Nat} {o : Obj}, w.heap[c]? = some o → w'.heap[c]? = some o := fun {c o} e => by
    have : c < w.heap.size := by
      rcases Nat.lt_or_ge c w.heap.size with q | q
      · exact q
      · simp [Array.getElem?_eq_none q] at e
    rw [hk c this]; exact e
  refine ⟨h.far, h.free, fun i b l hi hl => ?_, fun i c hi hc => ?_, h.inj, fun c o p => ?_, fun i k l hi => ?_⟩
  · obtain ⟨c, cs, e, n, k1, k2, k3, k4, k5⟩ := h.cells i b l hi hl
    exact ⟨c, cs, e, n, k1, at' k2, k3, k4.mono ext, k5⟩
  · obtain ⟨cs, e, n, k1, k2⟩ := h.tok i c hi hc
    exact ⟨cs, e, n, at' k1, k2⟩
  · obtain ⟨v, hv⟩ := h.there c o p
    exact ⟨v, (hp c o p).2.trans hv⟩
  · obtain ⟨c, ob, vs, k1, k2, k3, k4⟩ := h.obs i k l hi
    exact ⟨c, ob, vs, k1, at' k2, VAs.mono ext k3, k4⟩

theorem Does.reads {f : FuncId} {args args' : List AV} {v : AV} (h : Does P E f args' [] v []) (ha : All2 (Rd m) args args') (hv : ∀ g w g' w' x, VA g w v x → VA g' w' v x) : Does P E f args m v m := by
  obtain ⟨hf, h⟩ := h
  refine ⟨hf, fun g w cargs cs hr hva hg => ?_⟩
  obtain ⟨w', g1, cv, fr, h1, h2, h3, h4, h5, h6, h7, h8⟩ := h (heapG w) w cargs cs (Rel.bare fun _ _ p => p) (Rd.list ha hr hva) (hg.mono fun c o p => ⟨hr.there c o p, rfl⟩)
  have keep : ∀ c, c < w.heap.size → w'.heap[c]? = w.heap[c]? := fun c hc => h6.keep c hc (by rintro ⟨i, b, hi, _⟩; simp at hi)
  exact ⟨w', g, cv, fr, h1, h2, h3, hv _ _ _ _ _ h4, hr.later keep, ⟨h6.size, fun c hc _ => keep c hc, fun c o p => ⟨p, World.cell?_of_block (keep c (hr.pure_lt p))⟩, fun _ _ p => .inl p, fun _ p => .inl p, h6.os, h6.tape, h6.output⟩, fun k c _ hc => ⟨hc, rfl, rfl⟩, Nat.le_refl _⟩

theorem VA.ints {g g' : Gh} {w w' : World} {a b : Value} {x : Value} (h : VA g w (.tup [.p (.sc a), .p (.sc b)]) x) : VA g' w' (.tup [.p (.sc a), .p (.sc b)]) x := by
  cases h with
  | tup _ cs hl hc =>
    have hv : VAs g w [.p (.sc a), .p (.sc b)] cs.toList := All2.of_get hl hc
    refine VA.tups.2 ?_
    generalize cs.toList = vs at hv
    match vs, hv with
    | [u, t], hv =>
      obtain ⟨h1, h2, _⟩ := hv
      cases h1 with
      | p _ _ h1 => cases h1 with
        | sc => cases h2 with
          | p _ _ h2 => cases h2 with
            | sc => exact ⟨.p _ _ (.sc _), .p _ _ (.sc _), trivial⟩

end
end Go.Am
end

section
set_option linter.unusedSimpArgs false
set_option linter.unusedVariables false
namespace Go.Proofs.YtgbphddecpjlhaaGreatDoor.N
open Go Go.Am

def mV : AV := .agg [.ms 0 0 3 2 none, .os none 1 3 [.sc (.string (ByteArray.mk #[104, 111, 115, 116])), .sc (.string (ByteArray.mk #[102])), .sc (.int .i64 0)], .ms 1 0 2 3 none,
  .os none 1 3 [.sc (.int .u32 1), .sc (.int .u32 0), .sc (.bool false)], .os none 1 3 [.sc (.int .u32 1), .sc (.int .u32 0), .sc (.bool false)],
  .os none 2 2 [.sc (.bool true), .ps 1 8 (flat0 65), .sc (.bool false), .ps 1 8 (flat0 65)], .os none 0 0 [], .p (.sc (.bool false)), .p (.sc (.int .u32 0)), .os none 0 0 [], .os none 0 0 []]
def mF (lo : Int) (n : Nat) (X : List PV) : List PV := [.sc (.int .i64 1), .sc (.int .i64 0), .ps 0 0 [], .sc (.int .i64 2), .sc (.int .i64 lo), .ps n 8 X]
def blk (tr : Nat) (l : List Ins) : List Ins := [.mk 2 tr 0 0 0 [] l []]

end Go.Proofs.YtgbphddecpjlhaaGreatDoor.N
end

section
set_option linter.unusedSimpArgs false
set_option linter.unusedVariables false
namespace Go.Proofs.YtgbphddecpjlhaaGreatDoor.N
open Go Go.Am

def envQ : Env where
  glob := tabAt tabs
  wr f d := wrs f d || (Nat.beq f 7 && (Nat.beq d 6 || Nat.beq d 10))
  keep := keepAt keeps
  told := toldAt [(3, 52, sB true), (3, 56, sB true), (3, 63, sB true)]
def lwQ (l : List Ins) (lo tp tr nl e p w1 w2 w3 w4 : Int) (i : Nat) (f : FuncId) (_ : List AV) (m : Mem) : Option (AV × Mem) :=
  cond (Nat.beq f 12) (some (sB true, m)) (cond (Nat.beq f 6) (some (sI .i64 nl, m))
    (cond (Nat.beq f 8 || Nat.beq f 9) (some (.tup [sI .i64 e, sI .i64 p], m)) (cond (Nat.beq f 10 || Nat.beq f 11) (some (.agg [sI .i64 w1, sI .i64 w2, sI .i64 w3, sI .i64 w4], m)) none)))
noncomputable def lwlOrc : Orc := orcL noCall noLed [] [(3, 0, 0)] [(3, 0, 1)]
noncomputable def lwlSc (l : List Ins) (lo tp tr nl e p w1 w2 w3 w4 : Int) : Sc := (.ans 6 (sI .i64 nl) ([]) (.fork .fin (.ans 8 (.tup [sI .i64 e, sI .i64 p]) ([.ob (ObK.gr 26 true) [sI .i64 1, sI .i64 1, sI .i64 0, sI .i64 0, sI .i64 tp, sI .i64 tr], .ob (ObK.gr 41 true) [sI .i64 1, sI .i64 0, .p (.ps 0 0 []), sI .i64 2, sI .i64 lo, .p (.ps l.length 8 (encL l))]]) (.ans 9 (.tup [sI .i64 e, sI .i64 p]) ([.ob (ObK.gr 26 true) [sI .i64 1, sI .i64 1, sI .i64 0, sI .i64 0, sI .i64 tp, sI .i64 tr], .ob (ObK.gr 41 true) [sI .i64 1, sI .i64 0, .p (.ps 0 0 []), sI .i64 2, sI .i64 lo, .p (.ps l.length 8 (encL l))]]) (.led 3 8 (lwQ l lo tp tr nl e p w1 w2 w3 w4 3) .fin)))))
noncomputable def lwlTree (l : List Ins) (lo tp tr nl e p w1 w2 w3 w4 : Int) : Tree :=
 (.call ⟨6, [.p (.ps l.length 8 (encL l)), sI .i64 2000], [], sI .i64 nl, []⟩
 (.test (decide (nl > 2000))
 (.must true
 (.out (.ret (sB true) [])))
 (.call ⟨8, [.agg [.ms 0 0 3 2 none, .os none 1 3 [.sc (.string (ByteArray.mk #[104, 111, 115, 116])), .sc (.string (ByteArray.mk #[102])), sP 0], .ms 1 0 2 3 none, .os none 1 3 [.sc (.int .u32 1), .sc (.int .u32 0), .sc (.bool false)], .os none 1 3 [.sc (.int .u32 1), .sc (.int .u32 0), .sc (.bool false)], .os none 2 2 [.sc (.bool true), .ps 1 8 [sP 65, sP 0, .sc (.int .u32 0), .sc (.int .u32 0), .sc (.int .i32 0), .ps 0 0 [], .ps 0 0 [], .ps 0 0 []], .sc (.bool false), .ps 1 8 [sP 65, sP 0, .sc (.int .u32 0), .sc (.int .u32 0), .sc (.int .i32 0), .ps 0 0 [], .ps 0 0 [], .ps 0 0 []]], .os none 0 0 [], sB false, sI .u32 0, .os none 0 0 [], .os none 0 0 []], sI .i64 1], [.ob (ObK.gr 26 true) [sI .i64 1, sI .i64 1, sI .i64 0, sI .i64 0, sI .i64 tp, sI .i64 tr], .ob (ObK.gr 41 true) [sI .i64 1, sI .i64 0, .p (.ps 0 0 []), sI .i64 2, sI .i64 lo, .p (.ps l.length 8 (encL l))]], .tup [sI .i64 e, sI .i64 p], [.ob (ObK.gr 26 true) [sI .i64 1, sI .i64 1, sI .i64 0, sI .i64 0, sI .i64 tp, sI .i64 tr], .ob (ObK.gr 41 true) [sI .i64 1, sI .i64 0, .p (.ps 0 0 []), sI .i64 2, sI .i64 lo, .p (.ps l.length 8 (encL l))]]⟩
 (.call ⟨9, [.agg [.ms 0 0 3 2 none, .os none 1 3 [.sc (.string (ByteArray.mk #[104, 111, 115, 116])), .sc (.string (ByteArray.mk #[102])), sP 0], .ms 1 0 2 3 none, .os none 1 3 [.sc (.int .u32 1), .sc (.int .u32 0), .sc (.bool false)], .os none 1 3 [.sc (.int .u32 1), .sc (.int .u32 0), .sc (.bool false)], .os none 2 2 [.sc (.bool true), .ps 1 8 [sP 65, sP 0, .sc (.int .u32 0), .sc (.int .u32 0), .sc (.int .i32 0), .ps 0 0 [], .ps 0 0 [], .ps 0 0 []], .sc (.bool false), .ps 1 8 [sP 65, sP 0, .sc (.int .u32 0), .sc (.int .u32 0), .sc (.int .i32 0), .ps 0 0 [], .ps 0 0 [], .ps 0 0 []]], .os none 0 0 [], sB false, sI .u32 0, .os none 0 0 [], .os none 0 0 []], sI .i64 1], [.ob (ObK.gr 26 true) [sI .i64 1, sI .i64 1, sI .i64 0, sI .i64 0, sI .i64 tp, sI .i64 tr], .ob (ObK.gr 41 true) [sI .i64 1, sI .i64 0, .p (.ps 0 0 []), sI .i64 2, sI .i64 lo, .p (.ps l.length 8 (encL l))]], .tup [sI .i64 e, sI .i64 p], [.ob (ObK.gr 26 true) [sI .i64 1, sI .i64 1, sI .i64 0, sI .i64 0, sI .i64 tp, sI .i64 tr], .ob (ObK.gr 41 true) [sI .i64 1, sI .i64 0, .p (.ps 0 0 []), sI .i64 2, sI .i64 lo, .p (.ps l.length 8 (encL l))]]⟩
 (.call ⟨10, [.agg [.ms 0 0 3 2 none, .os none 1 3 [.sc (.string (ByteArray.mk #[104, 111, 115, 116])), .sc (.string (ByteArray.mk #[102])), sP 0], .ms 1 0 2 3 none, .os none 1 3 [.sc (.int .u32 1), .sc (.int .u32 0), .sc (.bool false)], .os none 1 3 [.sc (.int .u32 1), .sc (.int .u32 0), .sc (.bool false)], .os none 2 2 [.sc (.bool true), .ps 1 8 [sP 65, sP 0, .sc (.int .u32 0), .sc (.int .u32 0), .sc (.int .i32 0), .ps 0 0 [], .ps 0 0 [], .ps 0 0 []], .sc (.bool false), .ps 1 8 [sP 65, sP 0, .sc (.int .u32 0), .sc (.int .u32 0), .sc (.int .i32 0), .ps 0 0 [], .ps 0 0 [], .ps 0 0 []]], .os none 0 0 [], sB false, sI .u32 0, .os none 0 0 [], .os none 0 0 []]], [.ob (ObK.gr 26 true) [sI .i64 1, sI .i64 1, sI .i64 0, sI .i64 0, sI .i64 tp, sI .i64 tr], .ob (ObK.gr 41 true) [sI .i64 1, sI .i64 0, .p (.ps 0 0 []), sI .i64 2, sI .i64 lo, .p (.ps l.length 8 (encL l))]], .agg [sI .i64 w1, sI .i64 w2, sI .i64 w3, sI .i64 w4], [.ob (ObK.gr 26 true) [sI .i64 1, sI .i64 1, sI .i64 0, sI .i64 0, sI .i64 tp, sI .i64 tr], .ob (ObK.gr 41 true) [sI .i64 1, sI .i64 0, .p (.ps 0 0 []), sI .i64 2, sI .i64 lo, .p (.ps l.length 8 (encL l))]]⟩
 (.call ⟨11, [.agg [.ms 0 0 3 2 none, .os none 1 3 [.sc (.string (ByteArray.mk #[104, 111, 115, 116])), .sc (.string (ByteArray.mk #[102])), sP 0], .ms 1 0 2 3 none, .os none 1 3 [.sc (.int .u32 1), .sc (.int .u32 0), .sc (.bool false)], .os none 1 3 [.sc (.int .u32 1), .sc (.int .u32 0), .sc (.bool false)], .os none 2 2 [.sc (.bool true), .ps 1 8 [sP 65, sP 0, .sc (.int .u32 0), .sc (.int .u32 0), .sc (.int .i32 0), .ps 0 0 [], .ps 0 0 [], .ps 0 0 []], .sc (.bool false), .ps 1 8 [sP 65, sP 0, .sc (.int .u32 0), .sc (.int .u32 0), .sc (.int .i32 0), .ps 0 0 [], .ps 0 0 [], .ps 0 0 []]], .os none 0 0 [], sB false, sI .u32 0, .os none 0 0 [], .os none 0 0 []]], [.ob (ObK.gr 26 true) [sI .i64 1, sI .i64 1, sI .i64 0, sI .i64 0, sI .i64 tp, sI .i64 tr], .ob (ObK.gr 41 true) [sI .i64 1, sI .i64 0, .p (.ps 0 0 []), sI .i64 2, sI .i64 lo, .p (.ps l.length 8 (encL l))]], .agg [sI .i64 w1, sI .i64 w2, sI .i64 w3, sI .i64 w4], [.ob (ObK.gr 26 true) [sI .i64 1, sI .i64 1, sI .i64 0, sI .i64 0, sI .i64 tp, sI .i64 tr], .ob (ObK.gr 41 true) [sI .i64 1, sI .i64 0, .p (.ps 0 0 []), sI .i64 2, sI .i64 lo, .p (.ps l.length 8 (encL l))]]⟩
 (.call ⟨12, [], [], sB true, []⟩
 (.must (eqAV (.p (.sc (.bool (e == e)))) (sB true) && (eqAV (.p (.sc (.bool (p == p)))) (sB true) && (eqAV (.p (.sc (.bool ((fun r => w1 == w1 && r) ((fun r => w2 == w2 && r) ((fun r => w3 == w3 && r) ((fun r => w4 == w4 && r) true))))))) (sB true) && true)) && true)
 (.must true
 (.out (.ret (sB true) [])))))))))))
theorem lwl_tree (l : List Ins) (lo tp tr nl e p w1 w2 w3 w4 : Int) : growF Tryz.prog envQ lwlOrc 1000000 3 ([AV.agg [sI IntKind.i64 lo, aL l], AV.agg [sI IntKind.i64 tp, sI IntKind.i64 tr]]) ([]) (lwlSc l lo tp tr nl e p w1 w2 w3 w4) = lwlTree l lo tp tr nl e p w1 w2 w3 w4 := by kernel_rfl

theorem Does.toQ {f : FuncId} {args : List AV} {m m' : Mem} {v : AV} (h : Does Tryz.prog env f args m v m') : Does Tryz.prog envQ f args m v m' := h.env fun _ _ q => q

def mT2 (tp tr : Int) : List PV := [.sc (.int .i64 1), .sc (.int .i64 1), .sc (.int .i64 0), .sc (.int .i64 0), .sc (.int .i64 tp), .sc (.int .i64 tr)]
def mM2 (tp tr lo : Int) (L : List Ins) : Mem := [.ob (.gr 26 true) ((mT2 tp tr).map .p), .ob (.gr 41 true) ((mF lo L.length (encL L)).map .p)]

theorem mV_reads2 (tp tr lo : Int) (L : List Ins) : Rd (mM2 tp tr lo L) mV (.agg (rmD tp tr lo L).cells) := by
  have hglob : PleL [.sc (.bool true), .ps 1 8 (flat0 65), .sc (.bool false), .ps 1 8 (flat0 65)] [.sc (.bool true), .ps 1 8 con0, .sc (.bool false), .ps 1 8 con0] :=
    ⟨.refl _, .ps ⟨.refl _, .refl _, .refl _, .refl _, .refl _, .nil, .nil, .nil, trivial⟩, .refl _, .ps ⟨.refl _, .refl _, .refl _, .refl _, .refl _, .nil, .nil, .nil, trivial⟩, trivial⟩
  refine Rd.agg ?_
  exact ⟨Rd.ms (X := mT2 tp tr) rfl (.refl _) rfl (by decide), Rd.os (.refl _), Rd.ms (X := mF lo L.length (encL L)) rfl ⟨.refl _, .refl _, .nil, .refl _, .refl _, .refl _, trivial⟩ rfl (by decide), Rd.os (.refl _), Rd.os (.refl _), Rd.os (.ps hglob), Rd.os .nil, Rd.p (.refl _), Rd.p (.refl _), Rd.os .nil, Rd.os .nil, trivial⟩

theorem VAs.scs {g g' : Gh} {w w' : World} : ∀ {l : List Value} {cs : List Value}, VAs g w (l.map fun v => .p (.sc v)) cs → VAs g' w' (l.map fun v => .p (.sc v)) cs
  | [], [], _ => trivial
  | [], _ :: _, h => h.elim
  | _ :: _, [], h => h.elim
  | _ :: _, _ :: _, h => ⟨by
      obtain ⟨h1, _⟩ := h
      cases h1 with
      | p _ _ h1 => cases h1 with
        | sc => exact .p _ _ (.sc _), VAs.scs h.2⟩

theorem VA.ints4 {a b c d : Int} {g g' : Gh} {w w' : World} {x : Value} (q : VA g w (.agg [sI .i64 a, sI .i64 b, sI .i64 c, sI .i64 d]) x) : VA g' w' (.agg [sI .i64 a, sI .i64 b, sI .i64 c, sI .i64 d]) x := by
  cases q with
  | agg _ cs hl hc => exact VA.aggs.2 (VAs.scs (l := [.int .i64 a, .int .i64 b, .int .i64 c, .int .i64 d]) (All2.of_get hl hc))

theorem vb_does (l : List Ins) (lo tp tr : Int) (hl : l.length ≤ maxLen) (hw : wfL l) : Does Tryz.prog envQ 3 [.agg [sI .i64 lo, aL l], .agg [sI .i64 tp, sI .i64 tr]] [] (sB true) [] := by
  have haw : Does Tryz.prog envQ 12 [] [] (sB true) [] := Go.Am.Does.env Awdoes fun _ _ q => q
  have hil := Does.toQ (instrs_does (cntL l) l 2000 (Nat.le_refl _) hl hw (by decide) (by decide))
  refine does_of_tree names (lwl_tree l lo tp tr (insF l 2000 0) (bodG tp tr lo l).1 ((bodG tp tr lo l).2 : Nat) (wrG tp tr lo l).1 (wrG tp tr lo l).2.1 (wrG tp tr lo l).2.2.1 (wrG tp tr lo l).2.2.2) ?_
  simp only [lwlTree, Tree.ok, implies_true, true_and]
  refine ⟨hil, fun h1 => ?_⟩
  have h1 : insF l 2000 0 ≤ 2000 := by simp only [decide_eq_false_iff_not] at h1; omega
  have c1 := insF_cnt l 2000 0 (by decide) (by decide) h1
  have c1 : cntL l ≤ 2000 := by omega
  have n1 := numL_cnt l
  have hn : numL l ≤ 100000000000 := by omega
  have rd := mV_reads2 tp tr lo l
  have b1 : Does Tryz.prog envQ 8 [mV, sI .i64 1] (mM2 tp tr lo l) _ (mM2 tp tr lo l) := Does.toQ (Does.reads (vbody_does tp tr lo hn hw) ⟨rd, Rd.p (.refl _), trivial⟩ fun _ _ _ _ _ q => VA.ints q)
  have b2 : Does Tryz.prog envQ 9 [mV, sI .i64 1] (mM2 tp tr lo l) _ (mM2 tp tr lo l) := Does.toQ (Does.reads (dbody_does tp tr lo hn hw) ⟨rd, Rd.p (.refl _), trivial⟩ fun _ _ _ _ _ q => VA.ints q)
  have b3 : Does Tryz.prog envQ 10 [mV] (mM2 tp tr lo l) _ (mM2 tp tr lo l) := Does.toQ (Does.reads (vchk_does tp tr lo hn hw) ⟨rd, trivial⟩ fun _ _ _ _ _ q => VA.ints4 q)
  have b4 : Does Tryz.prog envQ 11 [mV] (mM2 tp tr lo l) _ (mM2 tp tr lo l) := Does.toQ (Does.reads (dchk_does tp tr lo hn hw) ⟨rd, trivial⟩ fun _ _ _ _ _ q => VA.ints4 q)
  refine ⟨b1, b2, b3, b4, haw, ?_, trivial⟩
  simp [eqAV, eqPV]
  rfl

end Go.Proofs.YtgbphddecpjlhaaGreatDoor.N
end

section
namespace Go.Proofs.YtgbphddecpjlhaaGreatDoor.N
open Go Go.Am

def laidTab : List (String × DataW Unit) := Rows.validBodiesRow.laid

theorem tabs_hold {W : World} (h : laidMetH Tryz.prog laidTab W) : TabsHold tabs W := by
  rw [MakeChecks.laidMetH_plain _ _ _ (by kernel_rfl)] at h
  exact tabsHold_cons (table_holds (n := 256) (t := 191) (e := 5) (k := .u8) (zs := spaceZ) (Lib.laidMet.reads h (n := "strings.asciiSpace") (d := Rows.laid_strings_asciiSpace) (.tail _ (.tail _ (.head _)))) (by kernel_rfl) (by kernel_rfl) (by kernel_rfl) (by kernel_rfl) (by kernel_rfl) (by kernel_rfl) (Nat.le_of_ble_eq_true (by kernel_rfl)))
    (tabsHold_cons (table_holds (n := 256) (t := 191) (e := 5) (k := .u8) (zs := firstZ) (Lib.laidMet.reads h (n := "unicode/utf8.first") (d := Rows.laid_unicode_utf8_first) (.tail _ (.tail _ (.tail _ (.head _))))) (by kernel_rfl) (by kernel_rfl) (by kernel_rfl) (by kernel_rfl) (by kernel_rfl) (by kernel_rfl) (Nat.le_of_ble_eq_true (by kernel_rfl)))
    (tabsHold_nil))

end Go.Proofs.YtgbphddecpjlhaaGreatDoor.N
end

section
namespace Go.Am
open Go.RowKit

section
variable {H : Type} {enc : TypeId × Value → H} {P : Program} {w : World} {base : Nat} {spare : Nat → Bool} {held : Bool} {tL tI ti tu tn tt : TypeId} {fs : Array Field}

theorem vas_of_vps {g : Gh} {w : World} : ∀ {l : List PV} {cs : List Value}, VPs g w l cs → VAs g w (l.map .p) cs
  | [], [], _ => trivial
  | _ :: _, _ :: _, h => ⟨.p _ _ h.1, vas_of_vps h.2⟩
  | [], _ :: _, h => h.elim
  | _ :: _, [], h => h.elim

end
end Go.Am
end

section
namespace Go.Am
open Go.RowKit

section
variable {H : Type} {enc : TypeId × Value → H} {P : Program} {w : World} {base : Nat} {spare : Nat → Bool} {held : Bool}

theorem cells_of_pair {t t1 t2 : TypeId} {fs : Array Field} (ht : P.underlying t = some (.struct fs)) (hz : P.cellsOf t = 2) (hf : (fs.toList.map fun f => (f.offset, f.type)) = [(0, t1), (1, t2)]) (h1 : P.cellsOf t1 = 1) (h2 : P.cellsOf t2 = 1)
    {fuel : Nat} {cs : List Value} {x : DataW H × List MemPlace} (h : DataW.trod enc P w base spare held fuel t cs = some x) :
    ∃ u0 u1 m y0 y1, cs = [u0, u1] ∧ DataW.trod enc P w base spare held m t1 [u0] = some y0 ∧ DataW.trod enc P w base spare held m t2 [u1] = some y1 := by
  obtain ⟨m, rfl, hlen, hg⟩ := cells_of_struct ht h
  rw [hz] at hlen
  have get : ∀ (i : Nat) (o t : Nat), [(0, t1), (1, t2)][i]? = some (o, t) → P.cellsOf t = 1 → ∃ y, DataW.trod enc P w base spare held m t ((cs.drop o).take 1) = some y := by
    intro i o t hi hc
    obtain ⟨f, q1, q2, q3⟩ := fld (fs := fs) (i := i) (by rw [hf]; exact hi)
    obtain ⟨y, hy⟩ := hg i f q1
    rw [q2, q3, hc] at hy
    exact ⟨y, hy⟩
  obtain ⟨y0, e0⟩ := get 0 0 t1 rfl h1
  obtain ⟨y1, e1⟩ := get 1 1 t2 rfl h2
  match cs, hlen with
  | [u0, u1], _ => exact ⟨u0, u1, m, y0, y1, rfl, e0, e1⟩

theorem va_agg {g : Gh} {w : World} {l : List PV} {cs : Array Value} (h : VPs g w l cs.toList) : VA g w (.agg (l.map .p)) (.agg cs) := by
  rw [VA.aggs]
  exact vas_of_vps h

end
end Go.Am
end
