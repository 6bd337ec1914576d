/-
  instr.Check, instr.Count, instr.Deep: what they tell, of any instructions.
-/
import Derived.Test.YtjjloibfhgofcaaDoorICN
import Derived.Test.YtjjloibfhgofcaaDoorICE
namespace Go.Proofs.YtjjloibfhgofcaaDoor.N
open Go Go.Am

noncomputable def chkG (l : List Ins) (tags n most : Int) (f : FuncId) (_ : List AV) (_ : Mem) : Option (AV × Mem) := cond (Nat.beq f 62) (some (.tup [], [recC l .ready none, .pc [.ps l.length 8 (encL l)], .pc [sP 0], .pc [sP tags], .pc [sP n], .pc [sP most]])) none
noncomputable def chkB (l : List Ins) (tags n most : Int) (f : FuncId) (_ : List AV) (_ : Mem) : Option (AV × Mem) := cond (Nat.beq f 62) (some (.tup [], [recC l .done (some .ret), .pc [.ps l.length 8 (encL l)], .pc [sP 2], .pc [sP tags], .pc [sP n], .pc [sP most]])) none
noncomputable def cntG (l : List Ins) (n : Int) (f : FuncId) (_ : List AV) (_ : Mem) : Option (AV × Mem) := cond (Nat.beq f 62) (some (.tup [], [recn l .ready none, .pc [.ps l.length 8 (encL l)], .pc [sP n]])) none
noncomputable def depG (l : List Ins) (n : Int) (f : FuncId) (_ : List AV) (_ : Mem) : Option (AV × Mem) := cond (Nat.beq f 62) (some (.tup [], [recd l .ready none, .pc [.ps l.length 8 (encL l)], .pc [sP n]])) none
/- alC: 9 steps -/
noncomputable def alCOrc : Orc := orcL noCall noLed [(62, 0)] [] []
def alCSc : Sc := .fin
noncomputable def alCTree (l : List Ins) : Tree :=
  (.at (bodyCfg Tryd.prog env 62 0 [AV.vy 0, AV.ms 6 0 1 2 Option.none] ([Blk.ob (loopK Tryd.prog 12 0 LoopState.ready Option.none) [AV.p (PV.ps l.length 8 (encL l)), AV.junk, AV.mp 2 0, AV.p (PV.sc (Value.bool false)), AV.mp 3 0, AV.mp 4 0, AV.mp 5 0, AV.junk, AV.junk, AV.p (PV.ps l.length 8 (encL l)), AV.fn (Fn.func 62) [] [AV.mp 1 0], AV.junk, AV.junk, AV.junk, AV.junk, AV.junk, AV.junk, AV.junk, AV.junk, AV.junk, AV.junk, AV.junk, AV.junk, AV.junk, AV.junk, AV.junk, AV.junk, AV.junk, AV.junk, AV.junk, AV.junk, AV.junk, AV.junk, AV.junk, AV.junk, AV.junk, AV.junk], Blk.pc [PV.ps l.length 8 (encL l)], Blk.pc [PV.sc (Value.int IntKind.i64 0)], Blk.pc [PV.sc (Value.int IntKind.i64 0)], Blk.pc [PV.sc (Value.int IntKind.i64 0)], Blk.pc [PV.sc (Value.int IntKind.i64 0)], Blk.ob (ObK.gr 116 true) [AV.p (PV.ps l.length 8 (encL l)), AV.p (PV.sc (Value.int IntKind.i64 1))]]) 6 64))
theorem alC_tree (l : List Ins) : growF Tryd.prog env alCOrc 1000000 62 ([AV.vy 0, AV.mp 1 0]) ([recC l LoopState.ready Option.none, Blk.pc [PV.ps l.length 8 (encL l)], Blk.pc [sP 0], Blk.pc [sP 0], Blk.pc [sP 0], Blk.pc [sP 0]]) alCSc = alCTree l := by kernel_rfl

/- aln: 9 steps -/
noncomputable def alnOrc : Orc := orcL noCall noLed [(62, 0)] [] []
def alnSc : Sc := .fin
noncomputable def alnTree (l : List Ins) : Tree :=
  (.at (bodyCfg Tryd.prog env 62 0 [AV.vy 0, AV.ms 3 0 1 2 Option.none] ([Blk.ob (loopK Tryd.prog 14 0 LoopState.ready Option.none) [AV.p (PV.ps l.length 8 (encL l)), AV.junk, AV.p (PV.sc (Value.int IntKind.i64 0)), AV.mp 2 0, AV.p (PV.ps l.length 8 (encL l)), AV.fn (Fn.func 62) [] [AV.mp 1 0], AV.junk, AV.junk, AV.junk, AV.junk, AV.junk], Blk.pc [PV.ps l.length 8 (encL l)], Blk.pc [PV.sc (Value.int IntKind.i64 0)], Blk.ob (ObK.gr 116 true) [AV.p (PV.ps l.length 8 (encL l)), AV.p (PV.sc (Value.int IntKind.i64 1))]]) 3 64))
theorem aln_tree (l : List Ins) : growF Tryd.prog env alnOrc 1000000 62 ([AV.vy 0, AV.mp 1 0]) ([recn l LoopState.ready Option.none, Blk.pc [PV.ps l.length 8 (encL l)], Blk.pc [sP 0]]) alnSc = alnTree l := by kernel_rfl

/- ald: 9 steps -/
noncomputable def aldOrc : Orc := orcL noCall noLed [(62, 0)] [] []
def aldSc : Sc := .fin
noncomputable def aldTree (l : List Ins) : Tree :=
  (.at (bodyCfg Tryd.prog env 62 0 [AV.vy 0, AV.ms 3 0 1 2 Option.none] ([Blk.ob (loopK Tryd.prog 15 0 LoopState.ready Option.none) [AV.p (PV.ps l.length 8 (encL l)), AV.junk, AV.p (PV.sc (Value.int IntKind.i64 0)), AV.mp 2 0, AV.junk, AV.p (PV.ps l.length 8 (encL l)), AV.fn (Fn.func 62) [] [AV.mp 1 0], AV.junk, AV.junk, AV.junk, AV.junk, AV.junk, AV.junk], Blk.pc [PV.ps l.length 8 (encL l)], Blk.pc [PV.sc (Value.int IntKind.i64 0)], Blk.ob (ObK.gr 116 true) [AV.p (PV.ps l.length 8 (encL l)), AV.p (PV.sc (Value.int IntKind.i64 1))]]) 3 64))
theorem ald_tree (l : List Ins) : growF Tryd.prog env aldOrc 1000000 62 ([AV.vy 0, AV.mp 1 0]) ([recd l LoopState.ready Option.none, Blk.pc [PV.ps l.length 8 (encL l)], Blk.pc [sP 0]]) aldSc = aldTree l := by kernel_rfl

/- chkG: 114 steps -/
noncomputable def chkGOrc (l : List Ins) (tags : Int) (n : Int) (most : Int) : Orc := orcL (chkG l tags n most) noLed [] [(12, 10, 3), (12, 10, 7), (12, 0, 0)] []
def chkGSc : Sc := (.fork (.lit (.lit .fin)) (.fork (.lit .fin) .fin))
noncomputable def chkGTree (l : List Ins) (tags : Int) (n : Int) (most : Int) : Tree :=
  (.call ⟨62, [AV.vy 0, AV.mp 1 0], [Blk.ob (loopK Tryd.prog 12 0 LoopState.ready Option.none) [AV.p (PV.ps l.length 8 (encL l)), AV.junk, AV.mp 2 0, AV.p (PV.sc (Value.bool false)), AV.mp 3 0, AV.mp 4 0, AV.mp 5 0, AV.junk, AV.junk, AV.p (PV.ps l.length 8 (encL l)), AV.fn (Fn.func 62) [] [AV.mp 1 0], AV.junk, AV.junk, AV.junk, AV.junk, AV.junk, AV.junk, AV.junk, AV.junk, AV.junk, AV.junk, AV.junk, AV.junk, AV.junk, AV.junk, AV.junk, AV.junk, AV.junk, AV.junk, AV.junk, AV.junk, AV.junk, AV.junk, AV.junk, AV.junk, AV.junk, AV.junk], Blk.pc [PV.ps l.length 8 (encL l)], Blk.pc [PV.sc (Value.int IntKind.i64 0)], Blk.pc [PV.sc (Value.int IntKind.i64 0)], Blk.pc [PV.sc (Value.int IntKind.i64 0)], Blk.pc [PV.sc (Value.int IntKind.i64 0)]], AV.tup [], [Blk.ob (loopK Tryd.prog 12 0 LoopState.ready Option.none) [AV.p (PV.ps l.length 8 (encL l)), AV.junk, AV.mp 2 0, AV.p (PV.sc (Value.bool false)), AV.mp 3 0, AV.mp 4 0, AV.mp 5 0, AV.junk, AV.junk, AV.p (PV.ps l.length 8 (encL l)), AV.fn (Fn.func 62) [] [AV.mp 1 0], AV.junk, AV.junk, AV.junk, AV.junk, AV.junk, AV.junk, AV.junk, AV.junk, AV.junk, AV.junk, AV.junk, AV.junk, AV.junk, AV.junk, AV.junk, AV.junk, AV.junk, AV.junk, AV.junk, AV.junk, AV.junk, AV.junk, AV.junk, AV.junk, AV.junk, AV.junk], Blk.pc [PV.ps l.length 8 (encL l)], Blk.pc [PV.sc (Value.int IntKind.i64 0)], Blk.pc [PV.sc (Value.int IntKind.i64 tags)], Blk.pc [PV.sc (Value.int IntKind.i64 n)], Blk.pc [PV.sc (Value.int IntKind.i64 most)]]⟩
   (.test (decide (n > 262144))
    (.out (Out.ret (AV.p (PV.sc (Value.int IntKind.i64 141))) []))
    (.test (decide (tags > 16384))
     (.out (Out.ret (AV.p (PV.sc (Value.int IntKind.i64 141))) []))
     (.test (decide (most > 900))
      (.out (Out.ret (AV.p (PV.sc (Value.int IntKind.i64 141))) []))
      (.out (Out.ret (AV.p (PV.sc (Value.int IntKind.i64 0))) []))))))
theorem chkG_tree (l : List Ins) (tags : Int) (n : Int) (most : Int) : growF Tryd.prog env (chkGOrc l tags n most) 1000000 12 ([aL l]) ([]) chkGSc = chkGTree l tags n most := by kernel_rfl

/- chkB: 36 steps -/
noncomputable def chkBOrc (l : List Ins) (tags : Int) (n : Int) (most : Int) : Orc := orcL (chkB l tags n most) noLed [] [] []
def chkBSc : Sc := .fin
noncomputable def chkBTree (l : List Ins) (tags : Int) (n : Int) (most : Int) : Tree :=
  (.call ⟨62, [AV.vy 0, AV.mp 1 0], [Blk.ob (loopK Tryd.prog 12 0 LoopState.ready Option.none) [AV.p (PV.ps l.length 8 (encL l)), AV.junk, AV.mp 2 0, AV.p (PV.sc (Value.bool false)), AV.mp 3 0, AV.mp 4 0, AV.mp 5 0, AV.junk, AV.junk, AV.p (PV.ps l.length 8 (encL l)), AV.fn (Fn.func 62) [] [AV.mp 1 0], AV.junk, AV.junk, AV.junk, AV.junk, AV.junk, AV.junk, AV.junk, AV.junk, AV.junk, AV.junk, AV.junk, AV.junk, AV.junk, AV.junk, AV.junk, AV.junk, AV.junk, AV.junk, AV.junk, AV.junk, AV.junk, AV.junk, AV.junk, AV.junk, AV.junk, AV.junk], Blk.pc [PV.ps l.length 8 (encL l)], Blk.pc [PV.sc (Value.int IntKind.i64 0)], Blk.pc [PV.sc (Value.int IntKind.i64 0)], Blk.pc [PV.sc (Value.int IntKind.i64 0)], Blk.pc [PV.sc (Value.int IntKind.i64 0)]], AV.tup [], [Blk.ob (loopK Tryd.prog 12 0 LoopState.done (Option.some Code.ret)) [AV.p (PV.ps l.length 8 (encL l)), AV.junk, AV.mp 2 0, AV.p (PV.sc (Value.bool false)), AV.mp 3 0, AV.mp 4 0, AV.mp 5 0, AV.junk, AV.junk, AV.p (PV.ps l.length 8 (encL l)), AV.fn (Fn.func 62) [] [AV.mp 1 0], AV.junk, AV.junk, AV.junk, AV.junk, AV.junk, AV.junk, AV.junk, AV.junk, AV.junk, AV.junk, AV.junk, AV.junk, AV.junk, AV.junk, AV.junk, AV.junk, AV.junk, AV.junk, AV.junk, AV.junk, AV.junk, AV.junk, AV.junk, AV.junk, AV.junk, AV.junk], Blk.pc [PV.ps l.length 8 (encL l)], Blk.pc [PV.sc (Value.int IntKind.i64 2)], Blk.pc [PV.sc (Value.int IntKind.i64 tags)], Blk.pc [PV.sc (Value.int IntKind.i64 n)], Blk.pc [PV.sc (Value.int IntKind.i64 most)]]⟩
   (.out (Out.ret (AV.p (PV.sc (Value.int IntKind.i64 2))) [])))
theorem chkB_tree (l : List Ins) (tags : Int) (n : Int) (most : Int) : growF Tryd.prog env (chkBOrc l tags n most) 1000000 12 ([aL l]) ([]) chkBSc = chkBTree l tags n most := by kernel_rfl

/- cntT: 37 steps -/
noncomputable def cntTOrc (l : List Ins) (n : Int) : Orc := orcL (cntG l n) noLed [] [] []
def cntTSc : Sc := .fin
noncomputable def cntTTree (l : List Ins) (n : Int) : Tree :=
  (.call ⟨62, [AV.vy 0, AV.mp 1 0], [Blk.ob (loopK Tryd.prog 14 0 LoopState.ready Option.none) [AV.p (PV.ps l.length 8 (encL l)), AV.junk, AV.p (PV.sc (Value.int IntKind.i64 0)), AV.mp 2 0, AV.p (PV.ps l.length 8 (encL l)), AV.fn (Fn.func 62) [] [AV.mp 1 0], AV.junk, AV.junk, AV.junk, AV.junk, AV.junk], Blk.pc [PV.ps l.length 8 (encL l)], Blk.pc [PV.sc (Value.int IntKind.i64 0)]], AV.tup [], [Blk.ob (loopK Tryd.prog 14 0 LoopState.ready Option.none) [AV.p (PV.ps l.length 8 (encL l)), AV.junk, AV.p (PV.sc (Value.int IntKind.i64 0)), AV.mp 2 0, AV.p (PV.ps l.length 8 (encL l)), AV.fn (Fn.func 62) [] [AV.mp 1 0], AV.junk, AV.junk, AV.junk, AV.junk, AV.junk], Blk.pc [PV.ps l.length 8 (encL l)], Blk.pc [PV.sc (Value.int IntKind.i64 n)]]⟩
   (.out (Out.ret (AV.p (PV.sc (Value.int IntKind.i64 n))) [])))
theorem cntT_tree (l : List Ins) (n : Int) : growF Tryd.prog env (cntTOrc l n) 1000000 14 ([aL l]) ([]) cntTSc = cntTTree l n := by kernel_rfl

/- depT: 37 steps -/
noncomputable def depTOrc (l : List Ins) (n : Int) : Orc := orcL (depG l n) noLed [] [] []
def depTSc : Sc := .fin
noncomputable def depTTree (l : List Ins) (n : Int) : Tree :=
  (.call ⟨62, [AV.vy 0, AV.mp 1 0], [Blk.ob (loopK Tryd.prog 15 0 LoopState.ready Option.none) [AV.p (PV.ps l.length 8 (encL l)), AV.junk, AV.p (PV.sc (Value.int IntKind.i64 0)), AV.mp 2 0, AV.junk, AV.p (PV.ps l.length 8 (encL l)), AV.fn (Fn.func 62) [] [AV.mp 1 0], AV.junk, AV.junk, AV.junk, AV.junk, AV.junk, AV.junk], Blk.pc [PV.ps l.length 8 (encL l)], Blk.pc [PV.sc (Value.int IntKind.i64 0)]], AV.tup [], [Blk.ob (loopK Tryd.prog 15 0 LoopState.ready Option.none) [AV.p (PV.ps l.length 8 (encL l)), AV.junk, AV.p (PV.sc (Value.int IntKind.i64 0)), AV.mp 2 0, AV.junk, AV.p (PV.ps l.length 8 (encL l)), AV.fn (Fn.func 62) [] [AV.mp 1 0], AV.junk, AV.junk, AV.junk, AV.junk, AV.junk, AV.junk], Blk.pc [PV.ps l.length 8 (encL l)], Blk.pc [PV.sc (Value.int IntKind.i64 n)]]⟩
   (.out (Out.ret (AV.p (PV.sc (Value.int IntKind.i64 n))) [])))
theorem depT_tree (l : List Ins) (n : Int) : growF Tryd.prog env (depTOrc l n) 1000000 15 ([aL l]) ([]) depTSc = depTTree l n := by kernel_rfl


theorem stk_one (l : List Ins) : StkAt [(l, 1)] [.p (.ps l.length 8 (encL l)), .p (.sc (.int .i64 1))] := rfl

/-- What a check tells, where each instruction may be as 'p' says. -/
def checkF (p : Ins → Bool) (l : List Ins) : Int := if okL p l = false then 2 else if 262144 < numL l ∨ 16384 < tagL l ∨ 900 < depL 1 l then 141 else 0

theorem check_does {p : Ins → Bool} (hp : ∀ x : Ins, Does Tryd.prog env 26 [aggX x] [] (sB (p x)) []) (l : List Ins) (h : numL l ≤ 100000000000) : Does Tryd.prog env 12 [aL l] [] (sI .i64 (checkF p l)) [] := by
  have hbig : bigN = 1000000000000 := rfl
  obtain ⟨o, ho, hq⟩ := chk_outer p hp l (2 * numL l + 2) [(l, 1)] _ 0 0 0 (by simp) (stk_one l) (by simp; omega) (by simp; omega) (fun e he => by simp only [List.mem_singleton] at he; subst he; simp only; omega)
  rcases hq with ⟨q1, rfl⟩ | ⟨q1, t, k, m, rfl⟩
  · have hd : Does Tryd.prog env 62 [.vy 0, .mp 1 0] _ (.tup []) _ := does_of_tree names (alC_tree l) ho
    refine does_of_tree names (chkG_tree l _ _ _) ⟨hd, ?_⟩
    rw [okS_one] at q1
    simp only [tagS_one, numS_one, depS_one, Nat.zero_add, Nat.zero_max]
    have z : ∀ a b : Nat, decide ((a : Int) > (b : Int)) = decide (b < a) := fun a b => by congr 1; exact propext (by omega)
    unfold checkF
    rw [if_neg (by rw [q1]; simp)]
    refine ⟨fun h1 => ?_, fun h1 => ⟨fun h2 => ?_, fun h2 => ⟨fun h3 => ?_, fun h3 => ?_⟩⟩⟩ <;> simp only [decide_eq_true_eq, decide_eq_false_iff_not] at *
    · rw [if_pos (by omega)]; rfl
    · rw [if_pos (by omega)]; rfl
    · rw [if_pos (by omega)]; rfl
    · rw [if_neg (by omega)]; rfl
  · have hd : Does Tryd.prog env 62 [.vy 0, .mp 1 0] _ (.tup []) _ := does_of_tree names (alC_tree l) ho
    refine does_of_tree names (chkB_tree l t k m) ⟨hd, ?_⟩
    rw [okS_one] at q1
    unfold checkF
    rw [if_pos q1]; rfl

theorem count_does (l : List Ins) (h : numL l ≤ 100000000000) : Does Tryd.prog env 14 [aL l] [] (sI .i64 (numL l)) [] := by
  have hbig : bigN = 1000000000000 := rfl
  have ho := n_outer l (2 * numL l + 2) [(l, 1)] _ 0 (by simp) (stk_one l) (by simp; omega) (by simp; omega) (fun e he => by simp only [List.mem_singleton] at he; subst he; simp only; omega)
  simp only [numS_one, Nat.zero_add] at ho
  have hd : Does Tryd.prog env 62 [.vy 0, .mp 1 0] _ (.tup []) _ := does_of_tree names (aln_tree l) ho
  exact does_of_tree names (cntT_tree l _) ⟨hd, rfl⟩

theorem deep_does (l : List Ins) (h : numL l ≤ 100000000000) : Does Tryd.prog env 15 [aL l] [] (sI .i64 (depL 1 l)) [] := by
  have hbig : bigN = 1000000000000 := rfl
  have ho := d_outer l (2 * numL l + 2) [(l, 1)] _ 0 (by simp) (stk_one l) (by simp; omega) (fun e he => by simp only [List.mem_singleton] at he; subst he; simp only; omega)
  simp only [depS_one, Nat.zero_max] at ho
  have hd : Does Tryd.prog env 62 [.vy 0, .mp 1 0] _ (.tup []) _ := does_of_tree names (ald_tree l) ho
  exact does_of_tree names (depT_tree l _) ⟨hd, rfl⟩

end Go.Proofs.YtjjloibfhgofcaaDoor.N
