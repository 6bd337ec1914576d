/-
  instr.Deep: the going through of instructions, by its trees (printed by a program of mine): the outer loop, its end, the inner loop.
  instr.Check, instr.Count, instr.Deep: what they tell, of any instructions.
  Nm: its call, run, in pieces.
  One instruction: its operation's name, what the operation uses, whether it may be, as the program and as the document say.
  One instruction: whether it may be, as the document says.
  The document's check of instructions: what its parts tell, of any instructions.
  How many words operations take and tell, on both sides.
-/
import Derived.Test.YtgbphddecpjlhaaGreatDoorMH

section
namespace Go.Proofs.YtgbphddecpjlhaaGreatDoor.N
open Go Go.Am

noncomputable def recd (l : List Ins) (st : LoopState) (pd : Option Code) : Blk := .ob (loopK Tryz.prog 13 0 st pd) [aL l, .junk, .p (.sc (.int .i64 0)), .mp 2 0, .junk, aL l, .fn (.func 59) [] [.mp 1 0], .junk, .junk, .junk, .junk, .junk, .junk]
noncomputable def find (l : List Ins) (n : Int) : Out := .ret (.tup []) [recd l .ready none, .pc [.ps l.length 8 (encL l)], .pc [sP n]]

section
variable (l : List Ins)

end
end Go.Proofs.YtgbphddecpjlhaaGreatDoor.N
end

section
namespace Go.Proofs.YtgbphddecpjlhaaGreatDoor.N
open Go Go.Am

noncomputable def chkG (l : List Ins) (tags n most : Int) (f : FuncId) (_ : List AV) (_ : Mem) : Option (AV × Mem) := cond (Nat.beq f 59) (some (.tup [], [recC l .ready none, .pc [.ps l.length 8 (encL l)], .pc [sP 0], .pc [sP tags], .pc [sP n], .pc [sP most]])) none
noncomputable def chkB (l : List Ins) (tags n most : Int) (f : FuncId) (_ : List AV) (_ : Mem) : Option (AV × Mem) := cond (Nat.beq f 59) (some (.tup [], [recC l .done (some .ret), .pc [.ps l.length 8 (encL l)], .pc [sP 2], .pc [sP tags], .pc [sP n], .pc [sP most]])) none
noncomputable def alCOrc : Orc := orcL noCall noLed [(59, 0)] [] []
def alCSc : Sc := .fin
noncomputable def alCTree (l : List Ins) : Tree :=
 (.at (bodyCfg Tryz.prog env 59 0 [.vy 0, .ms 6 0 1 2 none] ([.ob (loopK Tryz.prog 95 0 LoopState.ready none) [.p (.ps l.length 8 (encL l)), .junk, .mp 2 0, sB false, .mp 3 0, .mp 4 0, .mp 5 0, .junk, .junk, .p (.ps l.length 8 (encL l)), .fn (Fn.func 59) [] [.mp 1 0], .junk, .junk, .junk, .junk, .junk, .junk, .junk, .junk, .junk, .junk, .junk, .junk, .junk, .junk, .junk, .junk, .junk, .junk, .junk, .junk, .junk, .junk, .junk, .junk, .junk, .junk], .pc [.ps l.length 8 (encL l)], .pc [sP 0], .pc [sP 0], .pc [sP 0], .pc [sP 0], .ob (ObK.gr 111 true) [.p (.ps l.length 8 (encL l)), sI .i64 1]]) 6 64))
theorem alC_tree (l : List Ins) : growF Tryz.prog env alCOrc 1000000 59 ([AV.vy 0, AV.mp 1 0]) ([recC l LoopState.ready Option.none, Blk.pc [PV.ps l.length 8 (encL l)], Blk.pc [sP 0], Blk.pc [sP 0], Blk.pc [sP 0], Blk.pc [sP 0]]) alCSc = alCTree l := by kernel_rfl

noncomputable def chkGOrc (l : List Ins) (tags n most : Int) : Orc := orcL (chkG l tags n most) noLed [] [(95, 10, 3), (95, 10, 7), (95, 0, 0)] []
def chkGSc : Sc := (.fork (.lit (.lit .fin)) (.fork (.lit .fin) .fin))
noncomputable def chkGTree (l : List Ins) (tags n most : Int) : Tree :=
 (.call ⟨59, [.vy 0, .mp 1 0], [.ob (loopK Tryz.prog 95 0 LoopState.ready none) [.p (.ps l.length 8 (encL l)), .junk, .mp 2 0, sB false, .mp 3 0, .mp 4 0, .mp 5 0, .junk, .junk, .p (.ps l.length 8 (encL l)), .fn (Fn.func 59) [] [.mp 1 0], .junk, .junk, .junk, .junk, .junk, .junk, .junk, .junk, .junk, .junk, .junk, .junk, .junk, .junk, .junk, .junk, .junk, .junk, .junk, .junk, .junk, .junk, .junk, .junk, .junk, .junk], .pc [.ps l.length 8 (encL l)], .pc [sP 0], .pc [sP 0], .pc [sP 0], .pc [sP 0]], .tup [], [.ob (loopK Tryz.prog 95 0 LoopState.ready none) [.p (.ps l.length 8 (encL l)), .junk, .mp 2 0, sB false, .mp 3 0, .mp 4 0, .mp 5 0, .junk, .junk, .p (.ps l.length 8 (encL l)), .fn (Fn.func 59) [] [.mp 1 0], .junk, .junk, .junk, .junk, .junk, .junk, .junk, .junk, .junk, .junk, .junk, .junk, .junk, .junk, .junk, .junk, .junk, .junk, .junk, .junk, .junk, .junk, .junk, .junk, .junk, .junk], .pc [.ps l.length 8 (encL l)], .pc [sP 0], .pc [sP tags], .pc [sP n], .pc [sP most]]⟩
 (.test (decide (n > 262144))
 (.out (.ret (sI .i64 141) []))
 (.test (decide (tags > 16384))
 (.out (.ret (sI .i64 141) []))
 (.test (decide (most > 900))
 (.out (.ret (sI .i64 141) []))
 (.out (.ret (sI .i64 0) []))))))
theorem chkG_tree (l : List Ins) (tags n most : Int) : growF Tryz.prog env (chkGOrc l tags n most) 1000000 95 ([aL l]) ([]) chkGSc = chkGTree l tags n most := by kernel_rfl

noncomputable def chkBOrc (l : List Ins) (tags n most : Int) : Orc := orcL (chkB l tags n most) noLed [] [] []
def chkBSc : Sc := .fin
noncomputable def chkBTree (l : List Ins) (tags n most : Int) : Tree :=
 (.call ⟨59, [.vy 0, .mp 1 0], [.ob (loopK Tryz.prog 95 0 LoopState.ready none) [.p (.ps l.length 8 (encL l)), .junk, .mp 2 0, sB false, .mp 3 0, .mp 4 0, .mp 5 0, .junk, .junk, .p (.ps l.length 8 (encL l)), .fn (Fn.func 59) [] [.mp 1 0], .junk, .junk, .junk, .junk, .junk, .junk, .junk, .junk, .junk, .junk, .junk, .junk, .junk, .junk, .junk, .junk, .junk, .junk, .junk, .junk, .junk, .junk, .junk, .junk, .junk, .junk], .pc [.ps l.length 8 (encL l)], .pc [sP 0], .pc [sP 0], .pc [sP 0], .pc [sP 0]], .tup [], [.ob (loopK Tryz.prog 95 0 LoopState.done (some Code.ret)) [.p (.ps l.length 8 (encL l)), .junk, .mp 2 0, sB false, .mp 3 0, .mp 4 0, .mp 5 0, .junk, .junk, .p (.ps l.length 8 (encL l)), .fn (Fn.func 59) [] [.mp 1 0], .junk, .junk, .junk, .junk, .junk, .junk, .junk, .junk, .junk, .junk, .junk, .junk, .junk, .junk, .junk, .junk, .junk, .junk, .junk, .junk, .junk, .junk, .junk, .junk, .junk, .junk], .pc [.ps l.length 8 (encL l)], .pc [sP 2], .pc [sP tags], .pc [sP n], .pc [sP most]]⟩
 (.out (.ret (sI .i64 2) [])))
theorem chkB_tree (l : List Ins) (tags n most : Int) : growF Tryz.prog env (chkBOrc l tags n most) 1000000 95 ([aL l]) ([]) chkBSc = chkBTree l tags n most := by kernel_rfl

theorem stk_one (l : List Ins) : StkAt [(l, 1)] [.p (.ps l.length 8 (encL l)), .p (.sc (.int .i64 1))] := rfl

def checkF (p : Ins → Bool) (l : List Ins) : Int := if okL p l = false then 2 else if 262144 < numL l ∨ 16384 < tagL l ∨ 900 < depL 1 l then 141 else 0

theorem check_does {p : Ins → Bool} (hp : ∀ x : Ins, Does Tryz.prog env 126 [aggX x] [] (sB (p x)) []) (l : List Ins) (h : numL l ≤ 100000000000) : Does Tryz.prog env 95 [aL l] [] (sI .i64 (checkF p l)) [] := by
  have hbig : bigN = 1000000000000 := rfl
  obtain ⟨o, ho, hq⟩ := chk_outer p hp l (2 * numL l + 2) [(l, 1)] _ 0 0 0 (by simp) (stk_one l) (by simp; omega) (by simp; omega) (fun e he => by simp only [List.mem_singleton] at he; subst he; simp only; omega)
  rcases hq with ⟨q1, rfl⟩ | ⟨q1, t, k, m, rfl⟩
  · have hd : Does Tryz.prog env 59 [.vy 0, .mp 1 0] _ (.tup []) _ := does_of_tree names (alC_tree l) ho
    refine does_of_tree names (chkG_tree l _ _ _) ⟨hd, ?_⟩
    rw [okS_one] at q1
    simp only [tagS_one, numS_one, depS_one, Nat.zero_add, Nat.zero_max]
    have z : ∀ a b : Nat, decide ((a : Int) > (b : Int)) = decide (b < a) := fun a b => by congr 1; exact propext (by omega)
    unfold checkF
    rw [if_neg (by rw [q1]; simp)]
    refine ⟨fun h1 => ?_, fun h1 => ⟨fun h2 => ?_, fun h2 => ⟨fun h3 => ?_, fun h3 => ?_⟩⟩⟩ <;> simp only [decide_eq_true_eq, decide_eq_false_iff_not] at *
    · rw [if_pos (by omega)]; rfl
    · rw [if_pos (by omega)]; rfl
    · rw [if_pos (by omega)]; rfl
    · rw [if_neg (by omega)]; rfl
  · have hd : Does Tryz.prog env 59 [.vy 0, .mp 1 0] _ (.tup []) _ := does_of_tree names (alC_tree l) ho
    refine does_of_tree names (chkB_tree l t k m) ⟨hd, ?_⟩
    rw [okS_one] at q1
    unfold checkF
    rw [if_pos q1]; rfl

end Go.Proofs.YtgbphddecpjlhaaGreatDoor.N
end

section
namespace Go.Proofs.YtgbphddecpjlhaaGreatDoor.N
open Go Go.Am

def Nmc0 : Call' := ⟨169, [.p (.sc (.string ⟨#[101, 113, 122, 32, 101, 113, 32, 110, 101, 32, 108, 116, 95, 115, 32, 108, 116, 95, 117, 32, 103, 116, 95, 115, 32, 103, 116, 95, 117, 32, 108, 101, 95, 115, 32, 108, 101, 95, 117, 32, 103, 101, 95, 115, 32, 103, 101, 95, 117]⟩))], [], .p (.ps 11 1 [.sc (.string ⟨#[101, 113, 122]⟩), .sc (.string ⟨#[101, 113]⟩), .sc (.string ⟨#[110, 101]⟩), .sc (.string ⟨#[108, 116, 95, 115]⟩), .sc (.string ⟨#[108, 116, 95, 117]⟩), .sc (.string ⟨#[103, 116, 95, 115]⟩), .sc (.string ⟨#[103, 116, 95, 117]⟩), .sc (.string ⟨#[108, 101, 95, 115]⟩), .sc (.string ⟨#[108, 101, 95, 117]⟩), .sc (.string ⟨#[103, 101, 95, 115]⟩), .sc (.string ⟨#[103, 101, 95, 117]⟩)]), []⟩
theorem Nmd0 : Does Tryz.prog env Nmc0.g Nmc0.args Nmc0.m Nmc0.v Nmc0.m' := does_fast names (K := []) calls_nil (n := 10000000) (by kernel_rfl)
def NmK1 : List Call' := Nmc0 :: []
theorem NmK1ok : Calls' Tryz.prog env NmK1 := calls_cons Nmd0 calls_nil

def Nmc1 : Call' := ⟨169, [.p (.sc (.string ⟨#[99, 108, 122, 32, 99, 116, 122, 32, 112, 111, 112, 99, 110, 116, 32, 97, 100, 100, 32, 115, 117, 98, 32, 109, 117, 108, 32, 100, 105, 118, 95, 115, 32, 100, 105, 118, 95, 117, 32, 114, 101, 109, 95, 115, 32, 114, 101, 109, 95, 117, 32, 97, 110, 100, 32, 111, 114, 32, 120, 111, 114, 32, 115, 104, 108, 32, 115, 104, 114, 95, 115, 32, 115, 104, 114, 95, 117, 32, 114, 111, 116, 108, 32, 114, 111, 116, 114]⟩))], [], .p (.ps 18 1 [.sc (.string ⟨#[99, 108, 122]⟩), .sc (.string ⟨#[99, 116, 122]⟩), .sc (.string ⟨#[112, 111, 112, 99, 110, 116]⟩), .sc (.string ⟨#[97, 100, 100]⟩), .sc (.string ⟨#[115, 117, 98]⟩), .sc (.string ⟨#[109, 117, 108]⟩), .sc (.string ⟨#[100, 105, 118, 95, 115]⟩), .sc (.string ⟨#[100, 105, 118, 95, 117]⟩), .sc (.string ⟨#[114, 101, 109, 95, 115]⟩), .sc (.string ⟨#[114, 101, 109, 95, 117]⟩), .sc (.string ⟨#[97, 110, 100]⟩), .sc (.string ⟨#[111, 114]⟩), .sc (.string ⟨#[120, 111, 114]⟩), .sc (.string ⟨#[115, 104, 108]⟩), .sc (.string ⟨#[115, 104, 114, 95, 115]⟩), .sc (.string ⟨#[115, 104, 114, 95, 117]⟩), .sc (.string ⟨#[114, 111, 116, 108]⟩), .sc (.string ⟨#[114, 111, 116, 114]⟩)]), []⟩
theorem Nmd1 : Does Tryz.prog env Nmc1.g Nmc1.args Nmc1.m Nmc1.v Nmc1.m' := does_fast names (K := NmK1) NmK1ok (n := 10000000) (by kernel_rfl)
def NmK2 : List Call' := Nmc1 :: NmK1
theorem NmK2ok : Calls' Tryz.prog env NmK2 := calls_cons Nmd1 NmK1ok

def nmL : List ByteArray := [⟨#[117, 110, 114, 101, 97, 99, 104, 97, 98, 108, 101]⟩, ⟨#[110, 111, 112]⟩, ⟨#[98, 108, 111, 99, 107]⟩, ⟨#[108, 111, 111, 112]⟩, ⟨#[105, 102]⟩, ⟨#[]⟩, ⟨#[]⟩, ⟨#[]⟩, ⟨#[]⟩, ⟨#[]⟩, ⟨#[]⟩, ⟨#[]⟩, ⟨#[98, 114]⟩, ⟨#[98, 114, 95, 105, 102]⟩, ⟨#[98, 114, 95, 116, 97, 98, 108, 101]⟩, ⟨#[114, 101, 116, 117, 114, 110]⟩, ⟨#[99, 97, 108, 108]⟩, ⟨#[99, 97, 108, 108, 95, 105, 110, 100, 105, 114, 101, 99, 116]⟩, ⟨#[]⟩, ⟨#[]⟩, ⟨#[]⟩, ⟨#[]⟩, ⟨#[]⟩, ⟨#[]⟩, ⟨#[]⟩, ⟨#[]⟩, ⟨#[100, 114, 111, 112]⟩, ⟨#[115, 101, 108, 101, 99, 116]⟩, ⟨#[]⟩, ⟨#[]⟩, ⟨#[]⟩, ⟨#[]⟩, ⟨#[108, 111, 99, 97, 108, 46, 103, 101, 116]⟩, ⟨#[108, 111, 99, 97, 108, 46, 115, 101, 116]⟩, ⟨#[108, 111, 99, 97, 108, 46, 116, 101, 101]⟩, ⟨#[103, 108, 111, 98, 97, 108, 46, 103, 101, 116]⟩, ⟨#[103, 108, 111, 98, 97, 108, 46, 115, 101, 116]⟩, ⟨#[]⟩, ⟨#[]⟩, ⟨#[]⟩, ⟨#[105, 51, 50, 46, 108, 111, 97, 100]⟩, ⟨#[]⟩, ⟨#[]⟩, ⟨#[]⟩, ⟨#[105, 51, 50, 46, 108, 111, 97, 100, 56, 95, 115]⟩, ⟨#[105, 51, 50, 46, 108, 111, 97, 100, 56, 95, 117]⟩, ⟨#[105, 51, 50, 46, 108, 111, 97, 100, 49, 54, 95, 115]⟩, ⟨#[105, 51, 50, 46, 108, 111, 97, 100, 49, 54, 95, 117]⟩, ⟨#[]⟩, ⟨#[]⟩, ⟨#[]⟩, ⟨#[]⟩, ⟨#[]⟩, ⟨#[]⟩, ⟨#[105, 51, 50, 46, 115, 116, 111, 114, 101]⟩, ⟨#[]⟩, ⟨#[]⟩, ⟨#[]⟩, ⟨#[105, 51, 50, 46, 115, 116, 111, 114, 101, 56]⟩, ⟨#[105, 51, 50, 46, 115, 116, 111, 114, 101, 49, 54]⟩, ⟨#[]⟩, ⟨#[]⟩, ⟨#[]⟩, ⟨#[109, 101, 109, 111, 114, 121, 46, 115, 105, 122, 101]⟩, ⟨#[109, 101, 109, 111, 114, 121, 46, 103, 114, 111, 119]⟩, ⟨#[105, 51, 50, 46, 99, 111, 110, 115, 116]⟩, ⟨#[]⟩, ⟨#[]⟩, ⟨#[]⟩, ⟨#[105, 51, 50, 46, 101, 113, 122]⟩, ⟨#[105, 51, 50, 46, 101, 113]⟩, ⟨#[105, 51, 50, 46, 110, 101]⟩, ⟨#[105, 51, 50, 46, 108, 116, 95, 115]⟩, ⟨#[105, 51, 50, 46, 108, 116, 95, 117]⟩, ⟨#[105, 51, 50, 46, 103, 116, 95, 115]⟩, ⟨#[105, 51, 50, 46, 103, 116, 95, 117]⟩, ⟨#[105, 51, 50, 46, 108, 101, 95, 115]⟩, ⟨#[105, 51, 50, 46, 108, 101, 95, 117]⟩, ⟨#[105, 51, 50, 46, 103, 101, 95, 115]⟩, ⟨#[105, 51, 50, 46, 103, 101, 95, 117]⟩, ⟨#[]⟩, ⟨#[]⟩, ⟨#[]⟩, ⟨#[]⟩, ⟨#[]⟩, ⟨#[]⟩, ⟨#[]⟩, ⟨#[]⟩, ⟨#[]⟩, ⟨#[]⟩, ⟨#[]⟩, ⟨#[]⟩, ⟨#[]⟩, ⟨#[]⟩, ⟨#[]⟩, ⟨#[]⟩, ⟨#[]⟩, ⟨#[]⟩, ⟨#[]⟩, ⟨#[]⟩, ⟨#[]⟩, ⟨#[]⟩, ⟨#[]⟩, ⟨#[105, 51, 50, 46, 99, 108, 122]⟩, ⟨#[105, 51, 50, 46, 99, 116, 122]⟩, ⟨#[105, 51, 50, 46, 112, 111, 112, 99, 110, 116]⟩, ⟨#[105, 51, 50, 46, 97, 100, 100]⟩, ⟨#[105, 51, 50, 46, 115, 117, 98]⟩, ⟨#[105, 51, 50, 46, 109, 117, 108]⟩, ⟨#[105, 51, 50, 46, 100, 105, 118, 95, 115]⟩, ⟨#[105, 51, 50, 46, 100, 105, 118, 95, 117]⟩, ⟨#[105, 51, 50, 46, 114, 101, 109, 95, 115]⟩, ⟨#[105, 51, 50, 46, 114, 101, 109, 95, 117]⟩, ⟨#[105, 51, 50, 46, 97, 110, 100]⟩, ⟨#[105, 51, 50, 46, 111, 114]⟩, ⟨#[105, 51, 50, 46, 120, 111, 114]⟩, ⟨#[105, 51, 50, 46, 115, 104, 108]⟩, ⟨#[105, 51, 50, 46, 115, 104, 114, 95, 115]⟩, ⟨#[105, 51, 50, 46, 115, 104, 114, 95, 117]⟩, ⟨#[105, 51, 50, 46, 114, 111, 116, 108]⟩, ⟨#[105, 51, 50, 46, 114, 111, 116, 114]⟩, ⟨#[]⟩, ⟨#[]⟩, ⟨#[]⟩, ⟨#[]⟩, ⟨#[]⟩, ⟨#[]⟩, ⟨#[]⟩, ⟨#[]⟩, ⟨#[]⟩, ⟨#[]⟩, ⟨#[]⟩, ⟨#[]⟩, ⟨#[]⟩, ⟨#[]⟩, ⟨#[]⟩, ⟨#[]⟩, ⟨#[]⟩, ⟨#[]⟩, ⟨#[]⟩, ⟨#[]⟩, ⟨#[]⟩, ⟨#[]⟩, ⟨#[]⟩, ⟨#[]⟩, ⟨#[]⟩, ⟨#[]⟩, ⟨#[]⟩, ⟨#[]⟩, ⟨#[]⟩, ⟨#[]⟩, ⟨#[]⟩, ⟨#[]⟩, ⟨#[]⟩, ⟨#[]⟩, ⟨#[]⟩, ⟨#[]⟩, ⟨#[]⟩, ⟨#[]⟩, ⟨#[]⟩, ⟨#[]⟩, ⟨#[]⟩, ⟨#[]⟩, ⟨#[]⟩, ⟨#[]⟩, ⟨#[]⟩, ⟨#[]⟩, ⟨#[]⟩, ⟨#[]⟩, ⟨#[]⟩, ⟨#[]⟩, ⟨#[]⟩, ⟨#[]⟩, ⟨#[]⟩, ⟨#[]⟩, ⟨#[]⟩, ⟨#[]⟩, ⟨#[]⟩, ⟨#[]⟩, ⟨#[]⟩, ⟨#[]⟩, ⟨#[]⟩, ⟨#[]⟩, ⟨#[]⟩, ⟨#[]⟩, ⟨#[]⟩, ⟨#[]⟩, ⟨#[]⟩, ⟨#[]⟩, ⟨#[]⟩, ⟨#[]⟩, ⟨#[]⟩, ⟨#[]⟩, ⟨#[]⟩, ⟨#[]⟩, ⟨#[]⟩, ⟨#[]⟩, ⟨#[]⟩, ⟨#[]⟩, ⟨#[]⟩, ⟨#[]⟩, ⟨#[]⟩, ⟨#[]⟩, ⟨#[]⟩, ⟨#[]⟩, ⟨#[]⟩, ⟨#[]⟩, ⟨#[]⟩, ⟨#[]⟩, ⟨#[]⟩, ⟨#[]⟩, ⟨#[]⟩, ⟨#[]⟩, ⟨#[]⟩, ⟨#[]⟩, ⟨#[]⟩, ⟨#[]⟩, ⟨#[]⟩, ⟨#[]⟩, ⟨#[]⟩, ⟨#[]⟩, ⟨#[]⟩, ⟨#[]⟩, ⟨#[]⟩, ⟨#[]⟩, ⟨#[]⟩, ⟨#[]⟩, ⟨#[]⟩, ⟨#[]⟩, ⟨#[]⟩, ⟨#[]⟩, ⟨#[]⟩, ⟨#[]⟩, ⟨#[]⟩, ⟨#[]⟩, ⟨#[]⟩, ⟨#[]⟩, ⟨#[]⟩, ⟨#[]⟩, ⟨#[]⟩, ⟨#[]⟩, ⟨#[]⟩, ⟨#[]⟩, ⟨#[]⟩, ⟨#[]⟩, ⟨#[]⟩, ⟨#[]⟩, ⟨#[]⟩, ⟨#[]⟩, ⟨#[]⟩, ⟨#[]⟩, ⟨#[]⟩, ⟨#[]⟩, ⟨#[]⟩, ⟨#[]⟩, ⟨#[]⟩]

theorem Nmdoes : Does Tryz.prog env 163 [] [] (.agg (nmL.map fun s => .p (.sc (.string s)))) [] := does_fast names (K := NmK2) NmK2ok (n := 10000000) (by kernel_rfl)

end Go.Proofs.YtgbphddecpjlhaaGreatDoor.N
end

section
namespace Go.Proofs.YtgbphddecpjlhaaGreatDoor.N
open Go Go.Am

def namC (f : FuncId) (_ : List AV) (_ : Mem) : Option (AV × Mem) := cond (Nat.beq f 163) (some (.agg (nmL.map fun s => .p (.sc (.string s))), [])) none
def namS (op : Int) : FuncId → Nat → Nat → Option (AV → AV) := shapeAt [(149, 4, 2, .p (.sc (.string (nmL.getD op.toNat ⟨#[]⟩))))]
def useC (_op : Int) (n : Int) (st : Bool) (f : FuncId) (_ : List AV) (_ : Mem) : Option (AV × Mem) := cond (Nat.beq f 140) (some (.tup [sI .u32 n, sB st], [])) none
def mayC (_op _r _a _b _nn : Int) (_tg : List Int) (_ll _le : List Ins) (s : ByteArray) (u1 u2 u3 u4 u5 u6 : Bool) (f : FuncId) (_ : List AV) (_ : Mem) : Option (AV × Mem) := cond (Nat.beq f 149) (some (.p (.sc (.string s)), [])) (cond (Nat.beq f 148) (some (.agg [sB u1, sB u2, sB u3, sB u4, sB u5, sB u6], [])) none)
noncomputable def namOrc (op : Int) : Orc := orcS namC noLed [] [(149, 2, 3), (149, 0, 0)] [(149, 4, 2)] (namS op)
def namSc : Sc := (.fork (.lit .fin) .fin)
noncomputable def namTree (op : Int) : Tree :=
 (.test (decide (op < 0))
 (.out (.ret (.p (.sc (.string (ByteArray.mk #[])))) []))
 (.test (decide (op ≥ 256))
 (.out (.ret (.p (.sc (.string (ByteArray.mk #[])))) []))
 (.call ⟨163, [], [], .agg (nmL.map fun s => .p (.sc (.string s))), []⟩
 (.must (inB op 256 && (op.toNat * 1).blt 256 && true)
 (.need ((nmL.map fun s => AV.p (PV.sc (.string s))).getD (op.toNat * 1) AV.junk = AV.p (PV.sc (Value.string (nmL.getD op.toNat (ByteArray.mk #[])))))
 (.out (.ret (.p (.sc (.string (nmL.getD op.toNat (ByteArray.mk #[]))))) [])))))))
theorem nam_tree (op : Int) : growF Tryz.prog env (namOrc op) 1000000 149 ([sI IntKind.i64 op]) ([]) namSc = namTree op := by kernel_rfl

noncomputable def alPOrc : Orc := orcL noCall noLed [] [(140, 0, 0), (140, 0, 1), (140, 0, 2), (140, 0, 4), (140, 0, 3), (140, 0, 5), (140, 0, 7), (140, 0, 6)] []
def alPSc : Sc := (.fork (.yes .fin) (.fork .fin (.fork (.yes .fin) (.fork (.yes .fin) (.fork .fin (.fork (.yes .fin) (.fork (.yes .fin) .fin)))))))
noncomputable def alPTree (op : Int) : Tree :=
 (.test (op == 40)
 (.must (op == 40)
 (.out (.ret (.tup [sI .u32 2, sB true]) [])))
 (.test (op == 54)
 (.out (.ret (.tup [sI .u32 2, sB true]) []))
 (.test (op == 46)
 (.must (op == 46)
 (.out (.ret (.tup [sI .u32 1, sB true]) [])))
 (.test (op == 47)
 (.must (op == 47)
 (.out (.ret (.tup [sI .u32 1, sB true]) [])))
 (.test (op == 59)
 (.out (.ret (.tup [sI .u32 1, sB true]) []))
 (.test (op == 44)
 (.must (op == 44)
 (.out (.ret (.tup [sI .u32 0, sB true]) [])))
 (.test (op == 45)
 (.must (op == 45)
 (.out (.ret (.tup [sI .u32 0, sB true]) [])))
 (.test (op == 58)
 (.out (.ret (.tup [sI .u32 0, sB true]) []))
 (.out (.ret (.tup [sI .u32 0, sB false]) []))))))))))
theorem alP_tree (op : Int) : growF Tryz.prog env alPOrc 1000000 140 ([sI IntKind.i64 op]) ([]) alPSc = alPTree op := by kernel_rfl

noncomputable def alROrc : Orc := orcL noCall noLed [] [(146, 0, 0), (146, 0, 1), (146, 0, 2), (146, 0, 4), (146, 0, 3), (146, 0, 5), (146, 0, 7), (146, 0, 6)] []
def alRSc : Sc := (.fork (.yes .fin) (.fork .fin (.fork (.yes .fin) (.fork (.yes .fin) (.fork .fin (.fork (.yes .fin) (.fork (.yes .fin) .fin)))))))
noncomputable def alRTree (op : Int) : Tree :=
 (.test (op == 40)
 (.must (op == 40)
 (.out (.ret (.tup [sI .u32 2, sB true]) [])))
 (.test (op == 54)
 (.out (.ret (.tup [sI .u32 2, sB true]) []))
 (.test (op == 46)
 (.must (op == 46)
 (.out (.ret (.tup [sI .u32 1, sB true]) [])))
 (.test (op == 47)
 (.must (op == 47)
 (.out (.ret (.tup [sI .u32 1, sB true]) [])))
 (.test (op == 59)
 (.out (.ret (.tup [sI .u32 1, sB true]) []))
 (.test (op == 44)
 (.must (op == 44)
 (.out (.ret (.tup [sI .u32 0, sB true]) [])))
 (.test (op == 45)
 (.must (op == 45)
 (.out (.ret (.tup [sI .u32 0, sB true]) [])))
 (.test (op == 58)
 (.out (.ret (.tup [sI .u32 0, sB true]) []))
 (.out (.ret (.tup [sI .u32 0, sB false]) []))))))))))
theorem alR_tree (op : Int) : growF Tryz.prog env alROrc 1000000 146 ([sI IntKind.i64 op]) ([]) alRSc = alRTree op := by kernel_rfl

noncomputable def lisOrc : Orc := orcL noCall noLed [] [(165, 2, 3), (165, 2, 7)] []
def lisSc : Sc := (.fork (.lit .fin) .fin)
noncomputable def lisTree (op : Int) : Tree :=
 (.test (op == 2)
 (.out (.ret (sB true) []))
 (.test (op == 3)
 (.out (.ret (sB true) []))
 (.out (.ret (.p (.sc (.bool (op == 4)))) []))))
theorem lis_tree (op : Int) : growF Tryz.prog env lisOrc 1000000 165 ([sI IntKind.i64 op]) ([]) lisSc = lisTree op := by kernel_rfl

noncomputable def whiOrc : Orc := orcL noCall noLed [] [(166, 2, 3), (166, 2, 7), (166, 2, 11), (166, 2, 15), (166, 2, 18)] []
def whiSc : Sc := (.fork (.lit (.lit (.lit .fin))) (.fork (.lit (.lit .fin)) (.fork (.lit .fin) .fin)))
noncomputable def whiTree (op : Int) : Tree :=
 (.test (op == 12)
 (.out (.ret (sB true) []))
 (.test (op == 13)
 (.out (.ret (sB true) []))
 (.test (op == 16)
 (.out (.ret (sB true) []))
 (.test (op == 17)
 (.out (.ret (sB true) []))
 (.test (decide (op ≥ 32))
 (.out (.ret (.p (.sc (.bool (decide (op ≤ 36))))) []))
 (.out (.ret (sB false) [])))))))
theorem whi_tree (op : Int) : growF Tryz.prog env whiOrc 1000000 166 ([sI IntKind.i64 op]) ([]) whiSc = whiTree op := by kernel_rfl

noncomputable def useOrc (op n : Int) (st : Bool) : Orc := orcL (useC op n st) noLed [] [(148, 0, 0), (148, 0, 1), (148, 0, 2), (148, 0, 3), (148, 0, 4), (148, 0, 12), (148, 0, 5), (148, 0, 6), (148, 0, 7), (148, 0, 8), (148, 0, 9), (148, 0, 10), (148, 0, 11), (148, 0, 13), (148, 0, 14)] []
def useSc : Sc := (.fork .fin (.fork (.yes .fin) (.fork .fin (.fork .fin (.fork (.yes .fin) (.fork (.yes .fin) (.fork (.yes .fin) (.fork (.yes .fin) (.fork (.yes .fin) (.fork (.yes .fin) (.fork (.yes .fin) (.fork (.yes .fin) .fin))))))))))))
noncomputable def useTree (op n : Int) (st : Bool) : Tree :=
 (.call ⟨140, [sI .i64 op], [], .tup [sI .u32 n, .p (.sc (.bool st))], []⟩
 (.test (st)
 (.out (.ret (.agg [sB false, sB false, sB true, sB true, sB false, sB false]) []))
 (.test (op == 2)
 (.must (op == 2)
 (.out (.ret (.agg [sB true, sB false, sB false, sB false, sB false, sB false]) [])))
 (.test (op == 3)
 (.out (.ret (.agg [sB true, sB false, sB false, sB false, sB false, sB false]) []))
 (.test (op == 4)
 (.out (.ret (.agg [sB true, sB true, sB false, sB false, sB false, sB false]) []))
 (.test (op == 12)
 (.must (op == 12)
 (.out (.ret (.agg [sB false, sB false, sB true, sB false, sB false, sB false]) [])))
 (.test (op == 13)
 (.must (op == 13)
 (.out (.ret (.agg [sB false, sB false, sB true, sB false, sB false, sB false]) [])))
 (.test (op == 16)
 (.must (op == 16)
 (.out (.ret (.agg [sB false, sB false, sB true, sB false, sB false, sB false]) [])))
 (.test (op == 17)
 (.must (op == 17)
 (.out (.ret (.agg [sB false, sB false, sB true, sB false, sB false, sB false]) [])))
 (.test (op == 32)
 (.must (op == 32)
 (.out (.ret (.agg [sB false, sB false, sB true, sB false, sB false, sB false]) [])))
 (.test (op == 33)
 (.must (op == 33)
 (.out (.ret (.agg [sB false, sB false, sB true, sB false, sB false, sB false]) [])))
 (.test (op == 34)
 (.must (op == 34)
 (.out (.ret (.agg [sB false, sB false, sB true, sB false, sB false, sB false]) [])))
 (.test (op == 35)
 (.must (op == 35)
 (.out (.ret (.agg [sB false, sB false, sB true, sB false, sB false, sB false]) [])))
 (.test (op == 36)
 (.out (.ret (.agg [sB false, sB false, sB true, sB false, sB false, sB false]) []))
 (.test (op == 14)
 (.out (.ret (.agg [sB false, sB false, sB true, sB false, sB false, sB true]) []))
 (.test (op == 65)
 (.out (.ret (.agg [sB false, sB false, sB false, sB false, sB true, sB false]) []))
 (.out (.ret (.agg [sB false, sB false, sB false, sB false, sB false, sB false]) []))))))))))))))))))
theorem use_tree (op n : Int) (st : Bool) : growF Tryz.prog env (useOrc op n st) 1000000 148 ([sI IntKind.i64 op]) ([]) useSc = useTree op n st := by kernel_rfl

noncomputable def mayOrc (op r a b nn : Int) (tg : List Int) (ll : List Ins) (le : List Ins) (s : ByteArray) (u1 : Bool) (u2 : Bool) (u3 : Bool) (u4 : Bool) (u5 : Bool) (u6 : Bool) : Orc := orcL (mayC op r a b nn tg ll le s u1 u2 u3 u4 u5 u6) noLed [] [(126, 0, 0), (126, 0, 3), (126, 4, 4), (126, 0, 1), (126, 5, 4), (126, 5, 8), (126, 0, 2), (126, 6, 4), (126, 8, 3), (126, 8, 11), (126, 8, 20), (126, 8, 29), (126, 8, 26), (126, 8, 17), (126, 8, 8)] []
def maySc : Sc := (.fork (.yes .fin) (.fork (.lit (.lit .fin)) (.fork (.yes .fin) (.fork (.fork (.lit (.lit .fin)) (.fork (.yes .fin) (.fork (.fork .fin (.fork (.lit (.fork (.lit (.fork (.lit .fin) .fin)) (.fork (.fork (.lit .fin) .fin) (.lit .fin)))) (.fork (.fork (.lit (.fork (.lit .fin) .fin)) (.fork (.fork (.lit .fin) .fin) (.lit .fin))) (.lit (.lit .fin))))) (.lit (.fork (.lit (.fork (.lit (.fork (.lit .fin) .fin)) (.fork (.fork (.lit .fin) .fin) (.lit .fin)))) (.fork (.fork (.lit (.fork (.lit .fin) .fin)) (.fork (.fork (.lit .fin) .fin) (.lit .fin))) (.lit (.lit .fin)))))))) (.lit (.fork (.fork .fin (.fork (.lit (.fork (.lit (.fork (.lit .fin) .fin)) (.fork (.fork (.lit .fin) .fin) (.lit .fin)))) (.fork (.fork (.lit (.fork (.lit .fin) .fin)) (.fork (.fork (.lit .fin) .fin) (.lit .fin))) (.lit (.lit .fin))))) (.lit (.fork (.lit (.fork (.lit (.fork (.lit .fin) .fin)) (.fork (.fork (.lit .fin) .fin) (.lit .fin)))) (.fork (.fork (.lit (.fork (.lit .fin) .fin)) (.fork (.fork (.lit .fin) .fin) (.lit .fin))) (.lit (.lit .fin)))))))))))
noncomputable def mayTree (op r a b nn : Int) (tg : List Int) (ll : List Ins) (le : List Ins) (s : ByteArray) (u1 : Bool) (u2 : Bool) (u3 : Bool) (u4 : Bool) (u5 : Bool) (u6 : Bool) : Tree :=
 (.call ⟨148, [sI .i64 op], [], .agg [.p (.sc (.bool u1)), .p (.sc (.bool u2)), .p (.sc (.bool u3)), .p (.sc (.bool u4)), .p (.sc (.bool u5)), .p (.sc (.bool u6))], []⟩
 (.call ⟨149, [sI .i64 op], [], .p (.sc (.string s)), []⟩
 (.test (s.data.toList == (ByteArray.mk #[]).data.toList)
 (.must (s.data.toList == (ByteArray.mk #[]).data.toList)
 (.out (.ret (sB false) [])))
 (.test (decide (r < 0))
 (.out (.ret (sB false) []))
 (.test (decide (r > 1))
 (.must (decide (r > 1))
 (.out (.ret (sB false) [])))
 (.test (!u1)
 (.test (r != 0)
 (.out (.ret (sB false) []))
 (.test (decide ((↑ll.length : Int) > 0))
 (.must (decide ((↑ll.length : Int) > 0))
 (.out (.ret (sB false) [])))
 (.test (!u2)
 (.test (decide ((↑le.length : Int) > 0))
 (.out (.ret (sB false) []))
 (.test (u3)
 (.test (u4)
 (.test (u5)
 (.test (u6)
 (.out (.ret (sB true) []))
 (.out (.ret (.p (.sc (.bool ((↑tg.length : Int) == 0)))) [])))
 (.test (nn == 0)
 (.test (u6)
 (.out (.ret (sB true) []))
 (.out (.ret (.p (.sc (.bool ((↑tg.length : Int) == 0)))) [])))
 (.out (.ret (sB false) []))))
 (.test (b == 0)
 (.test (u5)
 (.test (u6)
 (.out (.ret (sB true) []))
 (.out (.ret (.p (.sc (.bool ((↑tg.length : Int) == 0)))) [])))
 (.test (nn == 0)
 (.test (u6)
 (.out (.ret (sB true) []))
 (.out (.ret (.p (.sc (.bool ((↑tg.length : Int) == 0)))) [])))
 (.out (.ret (sB false) []))))
 (.out (.ret (sB false) []))))
 (.test (a == 0)
 (.test (u4)
 (.test (u5)
 (.test (u6)
 (.out (.ret (sB true) []))
 (.out (.ret (.p (.sc (.bool ((↑tg.length : Int) == 0)))) [])))
 (.test (nn == 0)
 (.test (u6)
 (.out (.ret (sB true) []))
 (.out (.ret (.p (.sc (.bool ((↑tg.length : Int) == 0)))) [])))
 (.out (.ret (sB false) []))))
 (.test (b == 0)
 (.test (u5)
 (.test (u6)
 (.out (.ret (sB true) []))
 (.out (.ret (.p (.sc (.bool ((↑tg.length : Int) == 0)))) [])))
 (.test (nn == 0)
 (.test (u6)
 (.out (.ret (sB true) []))
 (.out (.ret (.p (.sc (.bool ((↑tg.length : Int) == 0)))) [])))
 (.out (.ret (sB false) []))))
 (.out (.ret (sB false) []))))
 (.out (.ret (sB false) [])))))
 (.test (u3)
 (.test (u4)
 (.test (u5)
 (.test (u6)
 (.out (.ret (sB true) []))
 (.out (.ret (.p (.sc (.bool ((↑tg.length : Int) == 0)))) [])))
 (.test (nn == 0)
 (.test (u6)
 (.out (.ret (sB true) []))
 (.out (.ret (.p (.sc (.bool ((↑tg.length : Int) == 0)))) [])))
 (.out (.ret (sB false) []))))
 (.test (b == 0)
 (.test (u5)
 (.test (u6)
 (.out (.ret (sB true) []))
 (.out (.ret (.p (.sc (.bool ((↑tg.length : Int) == 0)))) [])))
 (.test (nn == 0)
 (.test (u6)
 (.out (.ret (sB true) []))
 (.out (.ret (.p (.sc (.bool ((↑tg.length : Int) == 0)))) [])))
 (.out (.ret (sB false) []))))
 (.out (.ret (sB false) []))))
 (.test (a == 0)
 (.test (u4)
 (.test (u5)
 (.test (u6)
 (.out (.ret (sB true) []))
 (.out (.ret (.p (.sc (.bool ((↑tg.length : Int) == 0)))) [])))
 (.test (nn == 0)
 (.test (u6)
 (.out (.ret (sB true) []))
 (.out (.ret (.p (.sc (.bool ((↑tg.length : Int) == 0)))) [])))
 (.out (.ret (sB false) []))))
 (.test (b == 0)
 (.test (u5)
 (.test (u6)
 (.out (.ret (sB true) []))
 (.out (.ret (.p (.sc (.bool ((↑tg.length : Int) == 0)))) [])))
 (.test (nn == 0)
 (.test (u6)
 (.out (.ret (sB true) []))
 (.out (.ret (.p (.sc (.bool ((↑tg.length : Int) == 0)))) [])))
 (.out (.ret (sB false) []))))
 (.out (.ret (sB false) []))))
 (.out (.ret (sB false) [])))))))
 (.test (!u2)
 (.test (decide ((↑le.length : Int) > 0))
 (.out (.ret (sB false) []))
 (.test (u3)
 (.test (u4)
 (.test (u5)
 (.test (u6)
 (.out (.ret (sB true) []))
 (.out (.ret (.p (.sc (.bool ((↑tg.length : Int) == 0)))) [])))
 (.test (nn == 0)
 (.test (u6)
 (.out (.ret (sB true) []))
 (.out (.ret (.p (.sc (.bool ((↑tg.length : Int) == 0)))) [])))
 (.out (.ret (sB false) []))))
 (.test (b == 0)
 (.test (u5)
 (.test (u6)
 (.out (.ret (sB true) []))
 (.out (.ret (.p (.sc (.bool ((↑tg.length : Int) == 0)))) [])))
 (.test (nn == 0)
 (.test (u6)
 (.out (.ret (sB true) []))
 (.out (.ret (.p (.sc (.bool ((↑tg.length : Int) == 0)))) [])))
 (.out (.ret (sB false) []))))
 (.out (.ret (sB false) []))))
 (.test (a == 0)
 (.test (u4)
 (.test (u5)
 (.test (u6)
 (.out (.ret (sB true) []))
 (.out (.ret (.p (.sc (.bool ((↑tg.length : Int) == 0)))) [])))
 (.test (nn == 0)
 (.test (u6)
 (.out (.ret (sB true) []))
 (.out (.ret (.p (.sc (.bool ((↑tg.length : Int) == 0)))) [])))
 (.out (.ret (sB false) []))))
 (.test (b == 0)
 (.test (u5)
 (.test (u6)
 (.out (.ret (sB true) []))
 (.out (.ret (.p (.sc (.bool ((↑tg.length : Int) == 0)))) [])))
 (.test (nn == 0)
 (.test (u6)
 (.out (.ret (sB true) []))
 (.out (.ret (.p (.sc (.bool ((↑tg.length : Int) == 0)))) [])))
 (.out (.ret (sB false) []))))
 (.out (.ret (sB false) []))))
 (.out (.ret (sB false) [])))))
 (.test (u3)
 (.test (u4)
 (.test (u5)
 (.test (u6)
 (.out (.ret (sB true) []))
 (.out (.ret (.p (.sc (.bool ((↑tg.length : Int) == 0)))) [])))
 (.test (nn == 0)
 (.test (u6)
 (.out (.ret (sB true) []))
 (.out (.ret (.p (.sc (.bool ((↑tg.length : Int) == 0)))) [])))
 (.out (.ret (sB false) []))))
 (.test (b == 0)
 (.test (u5)
 (.test (u6)
 (.out (.ret (sB true) []))
 (.out (.ret (.p (.sc (.bool ((↑tg.length : Int) == 0)))) [])))
 (.test (nn == 0)
 (.test (u6)
 (.out (.ret (sB true) []))
 (.out (.ret (.p (.sc (.bool ((↑tg.length : Int) == 0)))) [])))
 (.out (.ret (sB false) []))))
 (.out (.ret (sB false) []))))
 (.test (a == 0)
 (.test (u4)
 (.test (u5)
 (.test (u6)
 (.out (.ret (sB true) []))
 (.out (.ret (.p (.sc (.bool ((↑tg.length : Int) == 0)))) [])))
 (.test (nn == 0)
 (.test (u6)
 (.out (.ret (sB true) []))
 (.out (.ret (.p (.sc (.bool ((↑tg.length : Int) == 0)))) [])))
 (.out (.ret (sB false) []))))
 (.test (b == 0)
 (.test (u5)
 (.test (u6)
 (.out (.ret (sB true) []))
 (.out (.ret (.p (.sc (.bool ((↑tg.length : Int) == 0)))) [])))
 (.test (nn == 0)
 (.test (u6)
 (.out (.ret (sB true) []))
 (.out (.ret (.p (.sc (.bool ((↑tg.length : Int) == 0)))) [])))
 (.out (.ret (sB false) []))))
 (.out (.ret (sB false) []))))
 (.out (.ret (sB false) [])))))))))))
theorem may_tree (op r a b nn : Int) (tg : List Int) (ll : List Ins) (le : List Ins) (s : ByteArray) (u1 : Bool) (u2 : Bool) (u3 : Bool) (u4 : Bool) (u5 : Bool) (u6 : Bool) : growF Tryz.prog env (mayOrc op r a b nn tg ll le s u1 u2 u3 u4 u5 u6) 1000000 126 ([aggI op r a b nn tg ll le]) ([]) maySc = mayTree op r a b nn tg ll le s u1 u2 u3 u4 u5 u6 := by kernel_rfl

def nm (op : Int) : ByteArray := if op < 0 ∨ 256 ≤ op then ⟨#[]⟩ else nmL.getD op.toNat ⟨#[]⟩

theorem name_does (op : Int) : Does Tryz.prog env 149 [sI .i64 op] [] (.p (.sc (.string (nm op)))) [] := by
  refine does_of_tree names (nam_tree op) ?_
  simp only [namTree, Tree.ok, decide_eq_true_eq, decide_eq_false_iff_not]
  have hlen : (nmL.map fun s => (AV.p (PV.sc (.string s)))).length = 256 := by kernel_rfl
  refine ⟨fun h => ?_, fun h => ⟨fun h2 => ?_, fun h2 => ⟨Nmdoes, ?_, ?_, ?_⟩⟩⟩
  · rw [nm, if_pos (.inl h)]
  · rw [nm, if_pos (.inr h2)]
  · simp [inB]; omega
  · have hl : op.toNat < (nmL.map fun s => (AV.p (PV.sc (.string s)))).length := by rw [hlen]; omega
    rw [Nat.mul_one, List.getD_eq_getElem?_getD, List.getElem?_eq_getElem hl, Option.getD_some, List.getElem_map, List.getD_eq_getElem?_getD, List.getElem?_eq_getElem (by simpa using hl), Option.getD_some]
  · rw [nm, if_neg (by omega)]

def isSt (op : Int) : Bool := decide (op = 40 ∨ op = 44 ∨ op = 45 ∨ op = 46 ∨ op = 47 ∨ op = 54 ∨ op = 58 ∨ op = 59)
def alignN (op : Int) : Int := if op = 40 ∨ op = 54 then 2 else if op = 46 ∨ op = 47 ∨ op = 59 then 1 else 0
def isLi (op : Int) : Bool := decide (op = 2 ∨ op = 3 ∨ op = 4)
def isWh (op : Int) : Bool := decide (op = 12 ∨ op = 13 ∨ op = 16 ∨ op = 17 ∨ (32 ≤ op ∧ op ≤ 36))

theorem align_does (op : Int) : Does Tryz.prog env 140 [sI .i64 op] [] (.tup [sI .u32 (alignN op), sB (isSt op)]) [] := by
  refine does_of_tree names (alP_tree op) ?_
  simp only [alPTree, Tree.ok, beq_iff_eq, beq_eq_false_iff_ne]
  repeat' first | apply And.intro | (intro h)
  all_goals first | assumption | (simp only [alignN, isSt]; simp_all; done)

theorem alignR_does (op : Int) : Does Tryz.prog env 146 [sI .i64 op] [] (.tup [sI .u32 (alignN op), sB (isSt op)]) [] := by
  refine does_of_tree names (alR_tree op) ?_
  simp only [alRTree, Tree.ok, beq_iff_eq, beq_eq_false_iff_ne]
  repeat' first | apply And.intro | (intro h)
  all_goals first | assumption | (simp only [alignN, isSt]; simp_all; done)

theorem lists_does (op : Int) : Does Tryz.prog env 165 [sI .i64 op] [] (sB (isLi op)) [] := by
  refine does_of_tree names (lis_tree op) ?_
  simp only [lisTree, Tree.ok, beq_iff_eq, beq_eq_false_iff_ne]
  repeat' first | apply And.intro | (intro h)
  all_goals (simp only [isLi]; congr 4; rw [Bool.eq_iff_iff]; simp only [beq_iff_eq, decide_eq_true_eq, true_iff]; omega)

theorem which_does (op : Int) : Does Tryz.prog env 166 [sI .i64 op] [] (sB (isWh op)) [] := by
  refine does_of_tree names (whi_tree op) ?_
  simp only [whiTree, Tree.ok, beq_iff_eq, beq_eq_false_iff_ne, decide_eq_true_eq, decide_eq_false_iff_not]
  repeat' first | apply And.intro | (intro h)
  all_goals (simp only [isWh]; congr 4; simp only [true_eq_decide_iff, false_eq_decide_iff, decide_eq_decide]; omega)

def useV (op : Int) : AV := .agg [sB (isLi op), sB (decide (op = 4)), sB (isSt op || isWh op || decide (op = 14)), sB (isSt op), sB (decide (op = 65)), sB (decide (op = 14))]

theorem use_eq {op : Int} {x1 x2 x3 x4 x5 x6 : Bool} (h1 : x1 = true ↔ isLi op = true) (h2 : x2 = true ↔ op = 4) (h3 : x3 = true ↔ isSt op = true ∨ isWh op = true ∨ op = 14) (h4 : x4 = true ↔ isSt op = true) (h5 : x5 = true ↔ op = 65) (h6 : x6 = true ↔ op = 14) :
    Out.ret (.agg [.p (.sc (.bool x1)), .p (.sc (.bool x2)), .p (.sc (.bool x3)), .p (.sc (.bool x4)), .p (.sc (.bool x5)), .p (.sc (.bool x6))]) [] = Out.ret (useV op) [] := by
  obtain rfl : x1 = isLi op := Bool.eq_iff_iff.2 h1
  obtain rfl : x2 = decide (op = 4) := Bool.eq_iff_iff.2 (by rw [h2, decide_eq_true_eq])
  obtain rfl : x3 = (isSt op || isWh op || decide (op = 14)) := Bool.eq_iff_iff.2 (by rw [h3, Bool.or_eq_true, Bool.or_eq_true, decide_eq_true_eq, or_assoc])
  obtain rfl : x4 = isSt op := Bool.eq_iff_iff.2 h4
  obtain rfl : x5 = decide (op = 65) := Bool.eq_iff_iff.2 (by rw [h5, decide_eq_true_eq])
  obtain rfl : x6 = decide (op = 14) := Bool.eq_iff_iff.2 (by rw [h6, decide_eq_true_eq])
  rfl

theorem isSt_iff {op : Int} : isSt op = true ↔ (op = 40 ∨ op = 44 ∨ op = 45 ∨ op = 46 ∨ op = 47 ∨ op = 54 ∨ op = 58 ∨ op = 59) := decide_eq_true_iff
theorem isLi_iff {op : Int} : isLi op = true ↔ (op = 2 ∨ op = 3 ∨ op = 4) := decide_eq_true_iff
theorem isWh_iff {op : Int} : isWh op = true ↔ (op = 12 ∨ op = 13 ∨ op = 16 ∨ op = 17 ∨ (32 ≤ op ∧ op ≤ 36)) := decide_eq_true_iff

set_option maxHeartbeats 2000000 in
theorem uses_does (op : Int) : Does Tryz.prog env 148 [sI .i64 op] [] (useV op) [] := by
  refine does_of_tree names (use_tree op (alignN op) (isSt op)) ?_
  simp only [useTree, Tree.ok, beq_iff_eq, beq_eq_false_iff_ne]
  refine ⟨align_does op, ?_⟩
  rw [← Bool.not_eq_true, isSt_iff]
  repeat' first | apply And.intro | (intro h)
  all_goals first | assumption | (refine use_eq ?_ ?_ ?_ ?_ ?_ ?_ <;> simp only [isSt_iff, isLi_iff, isWh_iff, true_iff, Bool.false_eq_true, false_iff] <;> omega)

def mayF (e0 u1 u2 u3 u4 u5 u6 e1 e2 e3 e4 e5 e6 e7 e8 e9 : Bool) : Bool := !e0 && (!e1 && (!e2 && ((u1 || !(e3 || e4)) && ((u2 || !e5) && ((u3 || e6) && ((u4 || e7) && ((u5 || e8) && (u6 || e9))))))))

set_option maxHeartbeats 4000000 in
theorem may_of (op r a b nn : Int) (tg : List Int) (ll le : List Ins) (s : ByteArray) (u1 u2 u3 u4 u5 u6 : Bool) (h1 : Does Tryz.prog env 148 [sI .i64 op] [] (.agg [sB u1, sB u2, sB u3, sB u4, sB u5, sB u6]) []) (h2 : Does Tryz.prog env 149 [sI .i64 op] [] (.p (.sc (.string s))) []) :
    Does Tryz.prog env 126 [aggI op r a b nn tg ll le] [] (sB (mayF (s.data.toList == (ByteArray.mk #[]).data.toList) u1 u2 u3 u4 u5 u6 (decide (r < 0)) (decide (r > 1)) (r != 0) (decide ((ll.length : Int) > 0)) (decide ((le.length : Int) > 0)) (a == 0) (b == 0) (nn == 0) ((tg.length : Int) == 0))) [] := by
  refine does_of_tree names (may_tree op r a b nn tg ll le s u1 u2 u3 u4 u5 u6) ?_
  simp only [mayTree, Tree.ok]
  refine ⟨h1, h2, ?_⟩
  generalize (s.data.toList == (ByteArray.mk #[]).data.toList) = e0
  generalize decide (r < 0) = e1
  generalize decide (r > 1) = e2
  generalize (r != 0) = e3
  generalize decide ((ll.length : Int) > 0) = e4
  generalize decide ((le.length : Int) > 0) = e5
  generalize (a == 0) = e6
  generalize (b == 0) = e7
  generalize (nn == 0) = e8
  generalize ((tg.length : Int) == 0) = e9
  cases e0
  case true => simp [mayF]
  cases e1
  case true => simp [mayF]
  cases e2
  case true => simp [mayF]
  cases u1 <;> cases e3 <;> cases e4 <;> (try (simp [mayF]; done)) <;> cases u2 <;> cases e5 <;> (try (simp [mayF]; done)) <;> cases u3 <;> cases e6 <;> (try (simp [mayF]; done)) <;> cases u4 <;> cases e7 <;> (try (simp [mayF]; done)) <;> cases u5 <;> cases e8 <;> (try (simp [mayF]; done)) <;> cases u6 <;> simp [mayF]

end Go.Proofs.YtgbphddecpjlhaaGreatDoor.N
end

section
namespace Go.Proofs.YtgbphddecpjlhaaGreatDoor.N
open Go Go.Am

def rigC (_op _r _a _b _nn : Int) (_tg : List Int) (_ll _le : List Ins) (s : ByteArray) (n : Int) (st li wh : Bool) (f : FuncId) (_ : List AV) (_ : Mem) : Option (AV × Mem) := cond (Nat.beq f 164) (some (.p (.sc (.string s)), [])) (cond (Nat.beq f 146) (some (.tup [sI .u32 n, sB st], [])) (cond (Nat.beq f 165) (some (sB li, [])) (cond (Nat.beq f 166) (some (sB wh, [])) none)))
noncomputable def rigOrc (op r a b nn : Int) (tg : List Int) (ll : List Ins) (le : List Ins) (s : ByteArray) (n : Int) (st : Bool) (li : Bool) (wh : Bool) : Orc := orcL (rigC op r a b nn tg ll le s n st li wh) noLed [] [(150, 3, 5), (150, 3, 10), (150, 3, 15), (150, 3, 19), (150, 3, 26), (150, 3, 31), (150, 3, 38), (150, 3, 43), (150, 0, 0), (150, 5, 5), (150, 5, 10), (150, 5, 14), (150, 5, 20), (150, 5, 24), (150, 0, 1), (150, 7, 4), (150, 7, 7), (150, 7, 12)] []
def rigSc : Sc := (.fork (.lit (.lit (.lit (.lit (.lit .fin))))) (.fork (.lit (.lit (.lit (.lit .fin)))) (.fork (.lit (.lit (.lit .fin))) (.fork (.fork (.lit (.lit .fin)) (.fork (.no (.fork (.fork .fin (.fork (.yes (.lit (.lit .fin))) (.lit (.fork (.yes (.lit .fin)) (.lit (.fork (.fork .fin (.fork (.lit (.lit .fin)) (.yes (.lit .fin)))) (.lit (.fork (.lit (.lit .fin)) (.fork (.lit .fin) .fin))))))))) (.lit (.fork (.fork (.lit (.lit .fin)) (.fork (.yes (.lit .fin)) (.lit (.fork (.fork .fin (.fork (.lit (.lit .fin)) (.yes (.lit .fin)))) (.lit (.fork (.lit (.lit .fin)) (.fork (.lit .fin) .fin))))))) (.lit (.fork (.fork (.lit .fin) (.fork (.fork .fin (.fork (.lit (.lit .fin)) (.yes (.lit .fin)))) (.lit (.fork (.lit (.lit .fin)) (.fork (.lit .fin) .fin))))) (.lit (.fork (.fork .fin (.fork (.lit (.lit .fin)) (.yes (.lit .fin)))) (.lit (.fork (.lit (.lit .fin)) (.fork (.lit .fin) .fin))))))))))) (.lit (.fork (.fork .fin (.fork (.yes (.lit (.lit .fin))) (.lit (.fork (.yes (.lit .fin)) (.lit (.fork (.fork .fin (.fork (.lit (.lit .fin)) (.yes (.lit .fin)))) (.lit (.fork (.lit (.lit .fin)) (.fork (.lit .fin) .fin))))))))) (.lit (.fork (.fork (.lit (.lit .fin)) (.fork (.yes (.lit .fin)) (.lit (.fork (.fork .fin (.fork (.lit (.lit .fin)) (.yes (.lit .fin)))) (.lit (.fork (.lit (.lit .fin)) (.fork (.lit .fin) .fin))))))) (.lit (.fork (.fork (.lit .fin) (.fork (.fork .fin (.fork (.lit (.lit .fin)) (.yes (.lit .fin)))) (.lit (.fork (.lit (.lit .fin)) (.fork (.lit .fin) .fin))))) (.lit (.fork (.fork .fin (.fork (.lit (.lit .fin)) (.yes (.lit .fin)))) (.lit (.fork (.lit (.lit .fin)) (.fork (.lit .fin) .fin))))))))))))) (.lit (.fork (.fork (.lit .fin) (.fork (.fork .fin (.fork (.yes (.lit (.lit .fin))) (.lit (.fork (.yes (.lit .fin)) (.lit (.fork (.fork .fin (.fork (.lit (.lit .fin)) (.yes (.lit .fin)))) (.lit (.fork (.lit (.lit .fin)) (.fork (.lit .fin) .fin))))))))) (.lit (.fork (.fork (.lit (.lit .fin)) (.fork (.yes (.lit .fin)) (.lit (.fork (.fork .fin (.fork (.lit (.lit .fin)) (.yes (.lit .fin)))) (.lit (.fork (.lit (.lit .fin)) (.fork (.lit .fin) .fin))))))) (.lit (.fork (.fork (.lit .fin) (.fork (.fork .fin (.fork (.lit (.lit .fin)) (.yes (.lit .fin)))) (.lit (.fork (.lit (.lit .fin)) (.fork (.lit .fin) .fin))))) (.lit (.fork (.fork .fin (.fork (.lit (.lit .fin)) (.yes (.lit .fin)))) (.lit (.fork (.lit (.lit .fin)) (.fork (.lit .fin) .fin))))))))))) (.lit (.fork (.fork .fin (.fork (.yes (.lit (.lit .fin))) (.lit (.fork (.yes (.lit .fin)) (.lit (.fork (.fork .fin (.fork (.lit (.lit .fin)) (.yes (.lit .fin)))) (.lit (.fork (.lit (.lit .fin)) (.fork (.lit .fin) .fin))))))))) (.lit (.fork (.fork (.lit (.lit .fin)) (.fork (.yes (.lit .fin)) (.lit (.fork (.fork .fin (.fork (.lit (.lit .fin)) (.yes (.lit .fin)))) (.lit (.fork (.lit (.lit .fin)) (.fork (.lit .fin) .fin))))))) (.lit (.fork (.fork (.lit .fin) (.fork (.fork .fin (.fork (.lit (.lit .fin)) (.yes (.lit .fin)))) (.lit (.fork (.lit (.lit .fin)) (.fork (.lit .fin) .fin))))) (.lit (.fork (.fork .fin (.fork (.lit (.lit .fin)) (.yes (.lit .fin)))) (.lit (.fork (.lit (.lit .fin)) (.fork (.lit .fin) .fin)))))))))))))))))
noncomputable def rigTree (op r a b nn : Int) (tg : List Int) (ll : List Ins) (le : List Ins) (s : ByteArray) (n : Int) (st : Bool) (li : Bool) (wh : Bool) : Tree :=
 (.call ⟨146, [sI .i64 op], [], .tup [sI .u32 n, .p (.sc (.bool st))], []⟩
 (.call ⟨164, [sI .i64 op], [], .p (.sc (.string s)), []⟩
 (.test (s.data.toList == (ByteArray.mk #[]).data.toList)
 (.out (.ret (sB false) []))
 (.test (decide (r < 0))
 (.out (.ret (sB false) []))
 (.test (decide (r > 1))
 (.out (.ret (sB false) []))
 (.test (decide (r > 0))
 (.call ⟨165, [sI .i64 op], [], .p (.sc (.bool li)), []⟩
 (.test (!li)
 (.out (.ret (sB false) []))
 (.test (decide ((↑ll.length : Int) > 0))
 (.call ⟨165, [sI .i64 op], [], .p (.sc (.bool li)), []⟩
 (.must (!(!li))
 (.test (decide ((↑le.length : Int) > 0))
 (.test (op != 4)
 (.out (.ret (sB false) []))
 (.test (decide ((↑tg.length : Int) > 0))
 (.must (op != 14)
 (.out (.ret (sB false) [])))
 (.test (nn != 0)
 (.must (op != 65)
 (.out (.ret (sB false) [])))
 (.test (b != 0)
 (.test (!st)
 (.out (.ret (sB false) []))
 (.test (a == 0)
 (.out (.ret (sB true) []))
 (.must (st)
 (.out (.ret (sB true) [])))))
 (.test (a == 0)
 (.out (.ret (sB true) []))
 (.test (st)
 (.out (.ret (sB true) []))
 (.call ⟨166, [sI .i64 op], [], .p (.sc (.bool wh)), []⟩
 (.test (wh)
 (.out (.ret (sB true) []))
 (.out (.ret (.p (.sc (.bool (op == 14)))) []))))))))))
 (.test (decide ((↑tg.length : Int) > 0))
 (.test (op != 14)
 (.out (.ret (sB false) []))
 (.test (nn != 0)
 (.must (op != 65)
 (.out (.ret (sB false) [])))
 (.test (b != 0)
 (.test (!st)
 (.out (.ret (sB false) []))
 (.test (a == 0)
 (.out (.ret (sB true) []))
 (.must (st)
 (.out (.ret (sB true) [])))))
 (.test (a == 0)
 (.out (.ret (sB true) []))
 (.test (st)
 (.out (.ret (sB true) []))
 (.call ⟨166, [sI .i64 op], [], .p (.sc (.bool wh)), []⟩
 (.test (wh)
 (.out (.ret (sB true) []))
 (.out (.ret (.p (.sc (.bool (op == 14)))) [])))))))))
 (.test (nn != 0)
 (.test (op != 65)
 (.out (.ret (sB false) []))
 (.test (b != 0)
 (.test (!st)
 (.out (.ret (sB false) []))
 (.test (a == 0)
 (.out (.ret (sB true) []))
 (.must (st)
 (.out (.ret (sB true) [])))))
 (.test (a == 0)
 (.out (.ret (sB true) []))
 (.test (st)
 (.out (.ret (sB true) []))
 (.call ⟨166, [sI .i64 op], [], .p (.sc (.bool wh)), []⟩
 (.test (wh)
 (.out (.ret (sB true) []))
 (.out (.ret (.p (.sc (.bool (op == 14)))) []))))))))
 (.test (b != 0)
 (.test (!st)
 (.out (.ret (sB false) []))
 (.test (a == 0)
 (.out (.ret (sB true) []))
 (.must (st)
 (.out (.ret (sB true) [])))))
 (.test (a == 0)
 (.out (.ret (sB true) []))
 (.test (st)
 (.out (.ret (sB true) []))
 (.call ⟨166, [sI .i64 op], [], .p (.sc (.bool wh)), []⟩
 (.test (wh)
 (.out (.ret (sB true) []))
 (.out (.ret (.p (.sc (.bool (op == 14)))) []))))))))))))
 (.test (decide ((↑le.length : Int) > 0))
 (.test (op != 4)
 (.out (.ret (sB false) []))
 (.test (decide ((↑tg.length : Int) > 0))
 (.must (op != 14)
 (.out (.ret (sB false) [])))
 (.test (nn != 0)
 (.must (op != 65)
 (.out (.ret (sB false) [])))
 (.test (b != 0)
 (.test (!st)
 (.out (.ret (sB false) []))
 (.test (a == 0)
 (.out (.ret (sB true) []))
 (.must (st)
 (.out (.ret (sB true) [])))))
 (.test (a == 0)
 (.out (.ret (sB true) []))
 (.test (st)
 (.out (.ret (sB true) []))
 (.call ⟨166, [sI .i64 op], [], .p (.sc (.bool wh)), []⟩
 (.test (wh)
 (.out (.ret (sB true) []))
 (.out (.ret (.p (.sc (.bool (op == 14)))) []))))))))))
 (.test (decide ((↑tg.length : Int) > 0))
 (.test (op != 14)
 (.out (.ret (sB false) []))
 (.test (nn != 0)
 (.must (op != 65)
 (.out (.ret (sB false) [])))
 (.test (b != 0)
 (.test (!st)
 (.out (.ret (sB false) []))
 (.test (a == 0)
 (.out (.ret (sB true) []))
 (.must (st)
 (.out (.ret (sB true) [])))))
 (.test (a == 0)
 (.out (.ret (sB true) []))
 (.test (st)
 (.out (.ret (sB true) []))
 (.call ⟨166, [sI .i64 op], [], .p (.sc (.bool wh)), []⟩
 (.test (wh)
 (.out (.ret (sB true) []))
 (.out (.ret (.p (.sc (.bool (op == 14)))) [])))))))))
 (.test (nn != 0)
 (.test (op != 65)
 (.out (.ret (sB false) []))
 (.test (b != 0)
 (.test (!st)
 (.out (.ret (sB false) []))
 (.test (a == 0)
 (.out (.ret (sB true) []))
 (.must (st)
 (.out (.ret (sB true) [])))))
 (.test (a == 0)
 (.out (.ret (sB true) []))
 (.test (st)
 (.out (.ret (sB true) []))
 (.call ⟨166, [sI .i64 op], [], .p (.sc (.bool wh)), []⟩
 (.test (wh)
 (.out (.ret (sB true) []))
 (.out (.ret (.p (.sc (.bool (op == 14)))) []))))))))
 (.test (b != 0)
 (.test (!st)
 (.out (.ret (sB false) []))
 (.test (a == 0)
 (.out (.ret (sB true) []))
 (.must (st)
 (.out (.ret (sB true) [])))))
 (.test (a == 0)
 (.out (.ret (sB true) []))
 (.test (st)
 (.out (.ret (sB true) []))
 (.call ⟨166, [sI .i64 op], [], .p (.sc (.bool wh)), []⟩
 (.test (wh)
 (.out (.ret (sB true) []))
 (.out (.ret (.p (.sc (.bool (op == 14)))) [])))))))))))))
 (.test (decide ((↑ll.length : Int) > 0))
 (.call ⟨165, [sI .i64 op], [], .p (.sc (.bool li)), []⟩
 (.test (!li)
 (.out (.ret (sB false) []))
 (.test (decide ((↑le.length : Int) > 0))
 (.test (op != 4)
 (.out (.ret (sB false) []))
 (.test (decide ((↑tg.length : Int) > 0))
 (.must (op != 14)
 (.out (.ret (sB false) [])))
 (.test (nn != 0)
 (.must (op != 65)
 (.out (.ret (sB false) [])))
 (.test (b != 0)
 (.test (!st)
 (.out (.ret (sB false) []))
 (.test (a == 0)
 (.out (.ret (sB true) []))
 (.must (st)
 (.out (.ret (sB true) [])))))
 (.test (a == 0)
 (.out (.ret (sB true) []))
 (.test (st)
 (.out (.ret (sB true) []))
 (.call ⟨166, [sI .i64 op], [], .p (.sc (.bool wh)), []⟩
 (.test (wh)
 (.out (.ret (sB true) []))
 (.out (.ret (.p (.sc (.bool (op == 14)))) []))))))))))
 (.test (decide ((↑tg.length : Int) > 0))
 (.test (op != 14)
 (.out (.ret (sB false) []))
 (.test (nn != 0)
 (.must (op != 65)
 (.out (.ret (sB false) [])))
 (.test (b != 0)
 (.test (!st)
 (.out (.ret (sB false) []))
 (.test (a == 0)
 (.out (.ret (sB true) []))
 (.must (st)
 (.out (.ret (sB true) [])))))
 (.test (a == 0)
 (.out (.ret (sB true) []))
 (.test (st)
 (.out (.ret (sB true) []))
 (.call ⟨166, [sI .i64 op], [], .p (.sc (.bool wh)), []⟩
 (.test (wh)
 (.out (.ret (sB true) []))
 (.out (.ret (.p (.sc (.bool (op == 14)))) [])))))))))
 (.test (nn != 0)
 (.test (op != 65)
 (.out (.ret (sB false) []))
 (.test (b != 0)
 (.test (!st)
 (.out (.ret (sB false) []))
 (.test (a == 0)
 (.out (.ret (sB true) []))
 (.must (st)
 (.out (.ret (sB true) [])))))
 (.test (a == 0)
 (.out (.ret (sB true) []))
 (.test (st)
 (.out (.ret (sB true) []))
 (.call ⟨166, [sI .i64 op], [], .p (.sc (.bool wh)), []⟩
 (.test (wh)
 (.out (.ret (sB true) []))
 (.out (.ret (.p (.sc (.bool (op == 14)))) []))))))))
 (.test (b != 0)
 (.test (!st)
 (.out (.ret (sB false) []))
 (.test (a == 0)
 (.out (.ret (sB true) []))
 (.must (st)
 (.out (.ret (sB true) [])))))
 (.test (a == 0)
 (.out (.ret (sB true) []))
 (.test (st)
 (.out (.ret (sB true) []))
 (.call ⟨166, [sI .i64 op], [], .p (.sc (.bool wh)), []⟩
 (.test (wh)
 (.out (.ret (sB true) []))
 (.out (.ret (.p (.sc (.bool (op == 14)))) []))))))))))))
 (.test (decide ((↑le.length : Int) > 0))
 (.test (op != 4)
 (.out (.ret (sB false) []))
 (.test (decide ((↑tg.length : Int) > 0))
 (.must (op != 14)
 (.out (.ret (sB false) [])))
 (.test (nn != 0)
 (.must (op != 65)
 (.out (.ret (sB false) [])))
 (.test (b != 0)
 (.test (!st)
 (.out (.ret (sB false) []))
 (.test (a == 0)
 (.out (.ret (sB true) []))
 (.must (st)
 (.out (.ret (sB true) [])))))
 (.test (a == 0)
 (.out (.ret (sB true) []))
 (.test (st)
 (.out (.ret (sB true) []))
 (.call ⟨166, [sI .i64 op], [], .p (.sc (.bool wh)), []⟩
 (.test (wh)
 (.out (.ret (sB true) []))
 (.out (.ret (.p (.sc (.bool (op == 14)))) []))))))))))
 (.test (decide ((↑tg.length : Int) > 0))
 (.test (op != 14)
 (.out (.ret (sB false) []))
 (.test (nn != 0)
 (.must (op != 65)
 (.out (.ret (sB false) [])))
 (.test (b != 0)
 (.test (!st)
 (.out (.ret (sB false) []))
 (.test (a == 0)
 (.out (.ret (sB true) []))
 (.must (st)
 (.out (.ret (sB true) [])))))
 (.test (a == 0)
 (.out (.ret (sB true) []))
 (.test (st)
 (.out (.ret (sB true) []))
 (.call ⟨166, [sI .i64 op], [], .p (.sc (.bool wh)), []⟩
 (.test (wh)
 (.out (.ret (sB true) []))
 (.out (.ret (.p (.sc (.bool (op == 14)))) [])))))))))
 (.test (nn != 0)
 (.test (op != 65)
 (.out (.ret (sB false) []))
 (.test (b != 0)
 (.test (!st)
 (.out (.ret (sB false) []))
 (.test (a == 0)
 (.out (.ret (sB true) []))
 (.must (st)
 (.out (.ret (sB true) [])))))
 (.test (a == 0)
 (.out (.ret (sB true) []))
 (.test (st)
 (.out (.ret (sB true) []))
 (.call ⟨166, [sI .i64 op], [], .p (.sc (.bool wh)), []⟩
 (.test (wh)
 (.out (.ret (sB true) []))
 (.out (.ret (.p (.sc (.bool (op == 14)))) []))))))))
 (.test (b != 0)
 (.test (!st)
 (.out (.ret (sB false) []))
 (.test (a == 0)
 (.out (.ret (sB true) []))
 (.must (st)
 (.out (.ret (sB true) [])))))
 (.test (a == 0)
 (.out (.ret (sB true) []))
 (.test (st)
 (.out (.ret (sB true) []))
 (.call ⟨166, [sI .i64 op], [], .p (.sc (.bool wh)), []⟩
 (.test (wh)
 (.out (.ret (sB true) []))
 (.out (.ret (.p (.sc (.bool (op == 14)))) [])))))))))))))))))
theorem rig_tree (op r a b nn : Int) (tg : List Int) (ll : List Ins) (le : List Ins) (s : ByteArray) (n : Int) (st : Bool) (li : Bool) (wh : Bool) : growF Tryz.prog env (rigOrc op r a b nn tg ll le s n st li wh) 1000000 150 ([aggI op r a b nn tg ll le]) ([]) rigSc = rigTree op r a b nn tg ll le s n st li wh := by kernel_rfl

def rigF (e0 e1 e2 e3 e4 e5 li n4 e6 n14 e8 n65 e7 st a0 wh : Bool) : Bool :=
  !e0 && (!e1 && (!e2 && (!(e3 && !li) && (!(e4 && !li) && (!(e5 && n4) && (!(e6 && n14) && (!(e8 && n65) && (!(e7 && !st) && (a0 || (st || (wh || !n14))))))))))) 

set_option maxHeartbeats 8000000 in
theorem rig_of (op r a b nn : Int) (tg : List Int) (ll le : List Ins) (s : ByteArray) (n : Int) (st li wh : Bool) (h1 : Does Tryz.prog env 146 [sI .i64 op] [] (.tup [sI .u32 n, sB st]) []) (h2 : Does Tryz.prog env 164 [sI .i64 op] [] (.p (.sc (.string s))) [])
    (h3 : Does Tryz.prog env 165 [sI .i64 op] [] (sB li) []) (h4 : Does Tryz.prog env 166 [sI .i64 op] [] (sB wh) []) :
    Does Tryz.prog env 150 [aggI op r a b nn tg ll le] [] (sB (rigF (s.data.toList == (ByteArray.mk #[]).data.toList) (decide (r < 0)) (decide (r > 1)) (decide (r > 0)) (decide ((ll.length : Int) > 0)) (decide ((le.length : Int) > 0)) li (op != 4) (decide ((tg.length : Int) > 0)) (op != 14) (nn != 0) (op != 65) (b != 0) st (a == 0) wh)) [] := by
  refine does_of_tree names (rig_tree op r a b nn tg ll le s n st li wh) ?_
  simp only [rigTree, Tree.ok]
  have e14 : (op == 14) = !(op != 14) := by simp [bne]
  simp only [e14]
  have c1 : (op != 14) = false → (op != 65) = true := by simp only [bne_eq_false_iff_eq, bne_iff_ne, ne_eq]; omega
  have c2 : (op != 4) = false → (op != 14) = true := by simp only [bne_eq_false_iff_eq, bne_iff_ne, ne_eq]; omega
  have c3 : (op != 4) = false → (op != 65) = true := by simp only [bne_eq_false_iff_eq, bne_iff_ne, ne_eq]; omega
  clear e14
  generalize (s.data.toList == (ByteArray.mk #[]).data.toList) = e0
  generalize decide (r < 0) = e1
  generalize decide (r > 1) = e2
  generalize decide (r > 0) = e3
  generalize decide ((ll.length : Int) > 0) = e4
  generalize decide ((le.length : Int) > 0) = e5
  generalize (op != 4) = n4 at c2 c3 ⊢
  generalize decide ((tg.length : Int) > 0) = e6
  generalize (op != 14) = n14 at c1 c2 ⊢
  generalize (nn != 0) = e8
  generalize (op != 65) = n65 at c1 c3 ⊢
  generalize (b != 0) = e7
  generalize (a == 0) = a0
  refine ⟨h1, h2, ?_⟩
  cases e0
  case true => simp [rigF]
  cases e1
  case true => simp [rigF]
  cases e2
  case true => simp [rigF]
  cases n4
  case false =>
    obtain rfl := c2 rfl
    obtain rfl := c3 rfl
    clear c1 c2 c3
    cases e3 <;> cases li <;> (try (simp [rigF, h3]; done)) <;> cases e4 <;> (try (simp [rigF, h3]; done)) <;> cases e5 <;> cases e6 <;> (try (simp [rigF, h3]; done)) <;> cases e8 <;> (try (simp [rigF, h3]; done)) <;> cases e7 <;> cases st <;> (try (simp [rigF, h3]; done)) <;> cases a0 <;> (try (simp [rigF, h3]; done)) <;> cases wh <;> simp [rigF, h3, h4]
  clear c2 c3
  cases n14
  case false =>
    obtain rfl := c1 rfl
    clear c1
    cases e3 <;> cases li <;> (try (simp [rigF, h3]; done)) <;> cases e4 <;> (try (simp [rigF, h3]; done)) <;> cases e5 <;> (try (simp [rigF, h3]; done)) <;> cases e6 <;> cases e8 <;> (try (simp [rigF, h3]; done)) <;> cases e7 <;> cases st <;> (try (simp [rigF, h3]; done)) <;> cases a0 <;> (try (simp [rigF, h3]; done)) <;> cases wh <;> simp [rigF, h3, h4]
  clear c1
  cases e3 <;> cases li <;> (try (simp [rigF, h3]; done)) <;> cases e4 <;> (try (simp [rigF, h3]; done)) <;> cases e5 <;> (try (simp [rigF, h3]; done)) <;> cases e6 <;> (try (simp [rigF, h3]; done)) <;> cases e8 <;> cases n65 <;> (try (simp [rigF, h3]; done)) <;> cases e7 <;> cases st <;> (try (simp [rigF, h3]; done)) <;> cases a0 <;> (try (simp [rigF, h3]; done)) <;> cases wh <;> simp [rigF, h3, h4]

end Go.Proofs.YtgbphddecpjlhaaGreatDoor.N
end

section
namespace Go.Proofs.YtgbphddecpjlhaaGreatDoor.N
open Go Go.Am

noncomputable def naLOrc : Orc := orcL noCall noLed [] [(164, 3, 3), (164, 6, 3), (170, 0, 0), (170, 0, 1), (170, 0, 2), (170, 0, 3), (170, 0, 4), (170, 0, 5), (170, 0, 6), (170, 0, 7), (170, 0, 8), (170, 0, 9), (170, 0, 10), (170, 0, 11), (170, 0, 12), (174, 0, 0), (174, 0, 1), (174, 0, 2), (174, 0, 3), (174, 0, 4), (174, 0, 5), (174, 0, 6), (174, 0, 7), (174, 0, 8), (174, 0, 9), (174, 0, 10), (174, 0, 11), (174, 0, 12), (174, 0, 13), (174, 0, 14), (174, 0, 15)] []
def naLSc : Sc := (.no (.no (.no (.no (.no (.no (.no (.no (.no (.no (.no (.no (.no (.no (.no (.no (.no (.no (.no (.no (.no (.no (.no (.no (.no (.no (.no (.no (.no (.no (.no .fin)))))))))))))))))))))))))))))))
noncomputable def naLTree (op : Int) : Tree :=
 (.must (!(decide (op ≥ 69)))
 (.must (!(decide (op ≥ 103)))
 (.must (!(op == 0))
 (.must (!(op == 1))
 (.must (!(op == 2))
 (.must (!(op == 3))
 (.must (!(op == 4))
 (.must (!(op == 12))
 (.must (!(op == 13))
 (.must (!(op == 14))
 (.must (!(op == 15))
 (.must (!(op == 16))
 (.must (!(op == 17))
 (.must (!(op == 26))
 (.must (!(op == 27))
 (.must (!(op == 32))
 (.must (!(op == 33))
 (.must (!(op == 34))
 (.must (!(op == 35))
 (.must (!(op == 36))
 (.must (!(op == 40))
 (.must (!(op == 44))
 (.must (!(op == 45))
 (.must (!(op == 46))
 (.must (!(op == 47))
 (.must (!(op == 54))
 (.must (!(op == 58))
 (.must (!(op == 59))
 (.must (!(op == 63))
 (.must (!(op == 64))
 (.must (!(op == 65))
 (.out (.ret (.p (.sc (.string (ByteArray.mk #[])))) [])))))))))))))))))))))))))))))))))
theorem naL_tree (op : Int) : growF Tryz.prog env naLOrc 1000000 164 ([sI IntKind.i64 op]) ([]) naLSc = naLTree op := by kernel_rfl

noncomputable def naHOrc : Orc := orcL noCall noLed [] [(164, 3, 3), (164, 0, 0), (164, 6, 3), (164, 0, 1), (170, 0, 0), (170, 0, 1), (170, 0, 2), (170, 0, 3), (170, 0, 4), (170, 0, 5), (170, 0, 6), (170, 0, 7), (170, 0, 8), (170, 0, 9), (170, 0, 10), (170, 0, 11), (170, 0, 12), (174, 0, 0), (174, 0, 1), (174, 0, 2), (174, 0, 3), (174, 0, 4), (174, 0, 5), (174, 0, 6), (174, 0, 7), (174, 0, 8), (174, 0, 9), (174, 0, 10), (174, 0, 11), (174, 0, 12), (174, 0, 13), (174, 0, 14), (174, 0, 15)] []
def naHSc : Sc := (.yes (.no (.yes (.no (.no (.no (.no (.no (.no (.no (.no (.no (.no (.no (.no (.no (.no (.no (.no (.no (.no (.no (.no (.no (.no (.no (.no (.no (.no (.no (.no (.no (.no .fin)))))))))))))))))))))))))))))))))
noncomputable def naHTree (op : Int) : Tree :=
 (.must (decide (op ≥ 69))
 (.must (!(decide (op ≤ 79)))
 (.must (decide (op ≥ 103))
 (.must (!(decide (op ≤ 120)))
 (.must (!(op == 0))
 (.must (!(op == 1))
 (.must (!(op == 2))
 (.must (!(op == 3))
 (.must (!(op == 4))
 (.must (!(op == 12))
 (.must (!(op == 13))
 (.must (!(op == 14))
 (.must (!(op == 15))
 (.must (!(op == 16))
 (.must (!(op == 17))
 (.must (!(op == 26))
 (.must (!(op == 27))
 (.must (!(op == 32))
 (.must (!(op == 33))
 (.must (!(op == 34))
 (.must (!(op == 35))
 (.must (!(op == 36))
 (.must (!(op == 40))
 (.must (!(op == 44))
 (.must (!(op == 45))
 (.must (!(op == 46))
 (.must (!(op == 47))
 (.must (!(op == 54))
 (.must (!(op == 58))
 (.must (!(op == 59))
 (.must (!(op == 63))
 (.must (!(op == 64))
 (.must (!(op == 65))
 (.out (.ret (.p (.sc (.string (ByteArray.mk #[])))) [])))))))))))))))))))))))))))))))))))
theorem naH_tree (op : Int) : growF Tryz.prog env naHOrc 1000000 164 ([sI IntKind.i64 op]) ([]) naHSc = naHTree op := by kernel_rfl

noncomputable def naRun (n : Nat) : Bool :=
  match execXF Tryz.prog env [] 100000 164 [sI .i64 n] [] with
  | some (.ret v m) => eqAV v (.p (.sc (.string (nmL.getD n ⟨#[]⟩)))) && eqMem m []
  | _ => false

theorem naRun0 : (List.range' 0 32).all naRun = true := by kernel_rfl
theorem naRun1 : (List.range' 32 32).all naRun = true := by kernel_rfl
theorem naRun2 : (List.range' 64 32).all naRun = true := by kernel_rfl
theorem naRun3 : (List.range' 96 32).all naRun = true := by kernel_rfl
theorem naRun4 : (List.range' 128 32).all naRun = true := by kernel_rfl
theorem naRun5 : (List.range' 160 32).all naRun = true := by kernel_rfl
theorem naRun6 : (List.range' 192 32).all naRun = true := by kernel_rfl
theorem naRun7 : (List.range' 224 32).all naRun = true := by kernel_rfl

theorem naRun_all {n : Nat} (h : n < 256) : naRun n = true := by
  have get : ∀ a, (List.range' a 32).all naRun = true → a ≤ n → n < a + 32 → naRun n = true := fun a ha h1 h2 => List.all_eq_true.1 ha n (List.mem_range'_1.2 ⟨h1, h2⟩)
  rcases Nat.lt_or_ge n 32 with q | q
  · exact get 0 naRun0 (by omega) (by omega)
  rcases Nat.lt_or_ge n 64 with q | q
  · exact get 32 naRun1 (by omega) (by omega)
  rcases Nat.lt_or_ge n 96 with q | q
  · exact get 64 naRun2 (by omega) (by omega)
  rcases Nat.lt_or_ge n 128 with q | q
  · exact get 96 naRun3 (by omega) (by omega)
  rcases Nat.lt_or_ge n 160 with q | q
  · exact get 128 naRun4 (by omega) (by omega)
  rcases Nat.lt_or_ge n 192 with q | q
  · exact get 160 naRun5 (by omega) (by omega)
  rcases Nat.lt_or_ge n 224 with q | q
  · exact get 192 naRun6 (by omega) (by omega)
  · exact get 224 naRun7 (by omega) (by omega)

theorem nameR_does (op : Int) : Does Tryz.prog env 164 [sI .i64 op] [] (.p (.sc (.string (nm op)))) [] := by
  by_cases h0 : op < 0
  · refine does_of_tree names (naL_tree op) ?_
    rw [nm, if_pos (.inl h0)]
    simp only [naLTree, Tree.ok, Bool.not_eq_true', beq_eq_false_iff_ne, decide_eq_false_iff_not]
    repeat' first | exact True.intro | exact rfl | apply And.intro
    all_goals omega
  · by_cases h1 : 256 ≤ op
    · refine does_of_tree names (naH_tree op) ?_
      rw [nm, if_pos (.inr h1)]
      simp only [naHTree, Tree.ok, Bool.not_eq_true', beq_eq_false_iff_ne, decide_eq_false_iff_not, decide_eq_true_eq]
      repeat' first | exact True.intro | exact rfl | apply And.intro
      all_goals omega
    · obtain ⟨n, rfl⟩ := Int.eq_ofNat_of_zero_le (by omega : 0 ≤ op)
      have hr := naRun_all (n := n) (by omega)
      unfold naRun at hr
      split at hr
      · rename_i v m hx
        rw [Bool.and_eq_true] at hr
        rw [eqAV_eq hr.1, eqMem_eq hr.2] at hx
        rw [nm, if_neg (by omega)]
        exact does_fast names calls_nil hx
      · cases hr

def mayI : Ins → Bool
  | .mk op r a b nn tg ll le => mayF ((nm op).data.toList == (ByteArray.mk #[]).data.toList) (isLi op) (decide (op = 4)) (isSt op || isWh op || decide (op = 14)) (isSt op) (decide (op = 65)) (decide (op = 14)) (decide (r < 0)) (decide (r > 1)) (r != 0) (decide ((ll.length : Int) > 0)) (decide ((le.length : Int) > 0)) (a == 0) (b == 0) (nn == 0) ((tg.length : Int) == 0)

theorem mayI_does (x : Ins) : Does Tryz.prog env 126 [aggX x] [] (sB (mayI x)) [] := by
  obtain ⟨op, r, a, b, nn, tg, ll, le⟩ := x
  exact may_of op r a b nn tg ll le (nm op) _ _ _ _ _ _ (uses_does op) (name_does op)

theorem same_form : ∀ e0 e1 e2 e3 e4 e5 li n4 e6 n14 e8 n65 e7 st a0 wh : Bool, (e1 = true → e3 = false) → mayF e0 li (!n4) (st || wh || !n14) st (!n65) (!n14) e1 e2 (e1 || e3) e4 e5 a0 (!e7) (!e8) (!e6) = rigF e0 e1 e2 e3 e4 e5 li n4 e6 n14 e8 n65 e7 st a0 wh := by
  intro e0 e1 e2 e3 e4 e5 li n4 e6 n14 e8 n65 e7 st a0 wh
  cases e0
  case true => intro _; rfl
  cases e1
  case true => intro _; rfl
  cases e2
  case true => intro _; rfl
  intro _
  revert e3 e4 e5 li n4 e6 n14 e8 n65 e7 st a0 wh
  decide +kernel

theorem rightI_does (x : Ins) : Does Tryz.prog env 150 [aggX x] [] (sB (mayI x)) [] := by
  obtain ⟨op, r, a, b, nn, tg, ll, le⟩ := x
  have h := rig_of op r a b nn tg ll le (nm op) _ _ _ _ (alignR_does op) (nameR_does op) (lists_does op) (which_does op)
  rw [← same_form] at h
  · have e1 : (!(op != 4)) = decide (op = 4) := by rw [Bool.eq_iff_iff]; simp
    have e2 : (!(op != 14)) = decide (op = 14) := by rw [Bool.eq_iff_iff]; simp
    have e3 : (!(op != 65)) = decide (op = 65) := by rw [Bool.eq_iff_iff]; simp
    have e4 : (!(b != 0)) = (b == 0) := by simp [bne]
    have e5 : (!(nn != 0)) = (nn == 0) := by simp [bne]
    have e6 : (!decide ((tg.length : Int) > 0)) = ((tg.length : Int) == 0) := by rw [Bool.eq_iff_iff, Bool.not_eq_true', decide_eq_false_iff_not, beq_iff_eq]; omega
    have e7 : (decide (r < 0) || decide (r > 0)) = (r != 0) := by rw [Bool.eq_iff_iff, Bool.or_eq_true, decide_eq_true_eq, decide_eq_true_eq, bne_iff_ne]; omega
    rw [e1, e2, e3, e4, e5, e6, e7] at h
    exact h
  · intro q; rw [decide_eq_true_eq] at q; rw [decide_eq_false_iff_not]; omega

end Go.Proofs.YtgbphddecpjlhaaGreatDoor.N
end

section
set_option linter.unusedSimpArgs false
namespace Go.Proofs.YtgbphddecpjlhaaGreatDoor.N
open Go Go.Am

def noCall' (_ : FuncId) (_ : List AV) (_ : Mem) : Option (AV × Mem) := none
noncomputable def shLOrc : Orc := orcL noCall' noLed [] [(168, 2, 3), (157, 0, 1), (157, 0, 2), (157, 0, 3), (157, 0, 4), (157, 0, 5), (157, 0, 6), (157, 0, 7), (157, 0, 8), (157, 0, 9), (157, 0, 10), (157, 0, 11), (157, 0, 12), (157, 0, 13), (157, 0, 14), (157, 0, 15), (157, 0, 16), (157, 0, 17), (157, 0, 18), (157, 0, 19)] []
def shLSc : Sc := (.yes (.no (.no (.no (.no (.no (.no (.no (.no (.no (.no (.no (.no (.no (.no (.no (.no (.no (.no (.no .fin))))))))))))))))))))
noncomputable def shLTree (op : Int) : Tree :=
 (.must (decide (op < 0))
 (.must (!(op == 1))
 (.must (!(op == 26))
 (.must (!(op == 33))
 (.must (!(op == 36))
 (.must (!(op == 27))
 (.must (!(op == 32))
 (.must (!(op == 35))
 (.must (!(op == 63))
 (.must (!(op == 65))
 (.must (!(op == 34))
 (.must (!(op == 40))
 (.must (!(op == 44))
 (.must (!(op == 45))
 (.must (!(op == 46))
 (.must (!(op == 47))
 (.must (!(op == 64))
 (.must (!(op == 54))
 (.must (!(op == 58))
 (.must (!(op == 59))
 (.out (.ret (.tup [sI .i64 0, sI .i64 0, sB false]) []))))))))))))))))))))))
theorem shL_tree (op : Int) : growF Tryz.prog env shLOrc 1000000 157 ([sI IntKind.i64 op]) ([]) shLSc = shLTree op := by kernel_rfl

noncomputable def shHOrc : Orc := orcL noCall' noLed [] [(168, 2, 3), (168, 0, 0), (157, 0, 1), (157, 0, 2), (157, 0, 3), (157, 0, 4), (157, 0, 5), (157, 0, 6), (157, 0, 7), (157, 0, 8), (157, 0, 9), (157, 0, 10), (157, 0, 11), (157, 0, 12), (157, 0, 13), (157, 0, 14), (157, 0, 15), (157, 0, 16), (157, 0, 17), (157, 0, 18), (157, 0, 19)] []
def shHSc : Sc := (.no (.yes (.no (.no (.no (.no (.no (.no (.no (.no (.no (.no (.no (.no (.no (.no (.no (.no (.no (.no (.no .fin)))))))))))))))))))))
noncomputable def shHTree (op : Int) : Tree :=
 (.must (!(decide (op < 0)))
 (.must (decide (op > 120))
 (.must (!(op == 1))
 (.must (!(op == 26))
 (.must (!(op == 33))
 (.must (!(op == 36))
 (.must (!(op == 27))
 (.must (!(op == 32))
 (.must (!(op == 35))
 (.must (!(op == 63))
 (.must (!(op == 65))
 (.must (!(op == 34))
 (.must (!(op == 40))
 (.must (!(op == 44))
 (.must (!(op == 45))
 (.must (!(op == 46))
 (.must (!(op == 47))
 (.must (!(op == 64))
 (.must (!(op == 54))
 (.must (!(op == 58))
 (.must (!(op == 59))
 (.out (.ret (.tup [sI .i64 0, sI .i64 0, sB false]) [])))))))))))))))))))))))
theorem shH_tree (op : Int) : growF Tryz.prog env shHOrc 1000000 157 ([sI IntKind.i64 op]) ([]) shHSc = shHTree op := by kernel_rfl

noncomputable def srLOrc : Orc := orcL noCall' noLed [] [(147, 2, 3), (147, 2, 6), (147, 4, 3), (147, 4, 10), (146, 0, 0), (146, 0, 1), (146, 0, 2), (146, 0, 3), (146, 0, 4), (146, 0, 5), (146, 0, 6), (146, 0, 7), (125, 0, 1), (125, 8, 3), (125, 8, 7), (125, 0, 2), (125, 0, 3), (125, 12, 3), (125, 12, 7), (125, 12, 11), (125, 0, 4), (125, 14, 3), (125, 14, 7)] []
def srLSc : Sc := (.no (.no (.no (.no (.no (.no (.no (.no (.no (.no (.no (.no (.no (.no (.no (.no (.no (.no (.no (.no (.no (.no (.no .fin)))))))))))))))))))))))
noncomputable def srLTree (op : Int) : Tree :=
 (.must (!(op == 69))
 (.must (!(decide (op ≥ 103)))
 (.must (!(decide (op ≥ 70)))
 (.must (!(decide (op ≥ 106)))
 (.must (!(op == 40))
 (.must (!(op == 54))
 (.must (!(op == 46))
 (.must (!(op == 47))
 (.must (!(op == 59))
 (.must (!(op == 44))
 (.must (!(op == 45))
 (.must (!(op == 58))
 (.must (!(op == 1))
 (.must (!(op == 26))
 (.must (!(op == 33))
 (.must (!(op == 36))
 (.must (!(op == 27))
 (.must (!(op == 32))
 (.must (!(op == 35))
 (.must (!(op == 63))
 (.must (!(op == 65))
 (.must (!(op == 34))
 (.must (!(op == 64))
 (.out (.ret (.tup [sI .i64 0, sI .i64 0, sB false]) [])))))))))))))))))))))))))
theorem srL_tree (op : Int) : growF Tryz.prog env srLOrc 1000000 125 ([sI IntKind.i64 op]) ([]) srLSc = srLTree op := by kernel_rfl

noncomputable def srHOrc : Orc := orcL noCall' noLed [] [(147, 2, 3), (147, 2, 6), (147, 0, 0), (147, 4, 3), (147, 4, 7), (147, 4, 10), (147, 0, 1), (146, 0, 0), (146, 0, 1), (146, 0, 2), (146, 0, 3), (146, 0, 4), (146, 0, 5), (146, 0, 6), (146, 0, 7), (125, 0, 1), (125, 8, 3), (125, 8, 7), (125, 0, 2), (125, 0, 3), (125, 12, 3), (125, 12, 7), (125, 12, 11), (125, 0, 4), (125, 14, 3), (125, 14, 7)] []
def srHSc : Sc := (.no (.yes (.no (.yes (.no (.yes (.no (.no (.no (.no (.no (.no (.no (.no (.no (.no (.no (.no (.no (.no (.no (.no (.no (.no (.no (.no .fin))))))))))))))))))))))))))
noncomputable def srHTree (op : Int) : Tree :=
 (.must (!(op == 69))
 (.must (decide (op ≥ 103))
 (.must (!(decide (op ≤ 105)))
 (.must (decide (op ≥ 70))
 (.must (!(decide (op ≤ 79)))
 (.must (decide (op ≥ 106))
 (.must (!(decide (op ≤ 120)))
 (.must (!(op == 40))
 (.must (!(op == 54))
 (.must (!(op == 46))
 (.must (!(op == 47))
 (.must (!(op == 59))
 (.must (!(op == 44))
 (.must (!(op == 45))
 (.must (!(op == 58))
 (.must (!(op == 1))
 (.must (!(op == 26))
 (.must (!(op == 33))
 (.must (!(op == 36))
 (.must (!(op == 27))
 (.must (!(op == 32))
 (.must (!(op == 35))
 (.must (!(op == 63))
 (.must (!(op == 65))
 (.must (!(op == 34))
 (.must (!(op == 64))
 (.out (.ret (.tup [sI .i64 0, sI .i64 0, sB false]) []))))))))))))))))))))))))))))
theorem srH_tree (op : Int) : growF Tryz.prog env srHOrc 1000000 125 ([sI IntKind.i64 op]) ([]) srHSc = srHTree op := by kernel_rfl

abbrev shV (op : Int) : AV := .tup [sI .i64 (takesF op), sI .i64 (tellsF op), sB (hasShape op)]

theorem shV_out {op : Int} (h : op < 0 ∨ 120 < op) : shV op = .tup [sI .i64 0, sI .i64 0, sB false] := by
  have h1 : takesF op = 0 := by
    unfold takesF
    rw [if_neg (by omega), if_neg (by omega), if_neg (by omega)]
  have h2 : tellsF op = 0 := by
    unfold tellsF
    rw [if_neg (by omega)]
  have h3 : hasShape op = false := by
    unfold hasShape
    rw [h1, h2]
    simp only [decide_eq_false_iff_not]
    omega
  rw [shV, h1, h2, h3]
  rfl

def arN (n : Nat) : Int := if n = 69 ∨ n = 103 ∨ n = 104 ∨ n = 105 then 1 else if (70 ≤ n ∧ n ≤ 79) ∨ (106 ≤ n ∧ n ≤ 120) then 2 else 0
def arC : Call' := ⟨171, [], [], .agg ((List.range 121).map fun n => sI .i64 (arN n)), []⟩
theorem arD : Does Tryz.prog env arC.g arC.args arC.m arC.v arC.m' := does_fast names (K := []) calls_nil (n := 1000000) (by kernel_rfl)
def arK : List Call' := [arC]
theorem arKok : Calls' Tryz.prog env arK := calls_cons arD calls_nil

noncomputable def shpRun (n : Nat) : Bool :=
  match execXF Tryz.prog env arK 100000 157 [sI .i64 n] [] with
  | some (.ret v m) => eqAV v (shV n) && eqMem m []
  | _ => false

theorem shpRun0 : (List.range' 0 31).all shpRun = true := by kernel_rfl
theorem shpRun1 : (List.range' 31 30).all shpRun = true := by kernel_rfl
theorem shpRun2 : (List.range' 61 30).all shpRun = true := by kernel_rfl
theorem shpRun3 : (List.range' 91 30).all shpRun = true := by kernel_rfl

theorem shpRun_all {n : Nat} (h : n < 121) : shpRun n = true := by
  have get : ∀ a k, (List.range' a k).all shpRun = true → a ≤ n → n < a + k → shpRun n = true := fun a k ha h1 h2 => List.all_eq_true.1 ha n (List.mem_range'_1.2 ⟨h1, h2⟩)
  rcases Nat.lt_or_ge n 31 with q | q
  · exact get 0 31 shpRun0 (by omega) (by omega)
  rcases Nat.lt_or_ge n 61 with q | q
  · exact get 31 30 shpRun1 (by omega) (by omega)
  rcases Nat.lt_or_ge n 91 with q | q
  · exact get 61 30 shpRun2 (by omega) (by omega)
  · exact get 91 30 shpRun3 (by omega) (by omega)

theorem shp_does (op : Int) : Does Tryz.prog env 157 [sI .i64 op] [] (shV op) [] := by
  by_cases h0 : op < 0
  · rw [shV_out (.inl h0)]
    refine does_of_tree names (shL_tree op) ?_
    simp only [shLTree, Tree.ok, Bool.not_eq_true', beq_eq_false_iff_ne, decide_eq_true_eq, decide_eq_false_iff_not]
    repeat' first | exact True.intro | exact rfl | apply And.intro
    all_goals omega
  · by_cases h1 : 120 < op
    · rw [shV_out (.inr h1)]
      refine does_of_tree names (shH_tree op) ?_
      simp only [shHTree, Tree.ok, Bool.not_eq_true', beq_eq_false_iff_ne, decide_eq_false_iff_not, decide_eq_true_eq]
      repeat' first | exact True.intro | exact rfl | apply And.intro
      all_goals omega
    · obtain ⟨n, rfl⟩ := Int.eq_ofNat_of_zero_le (by omega : 0 ≤ op)
      have hr := shpRun_all (n := n) (by omega)
      unfold shpRun at hr
      split at hr
      · rename_i v m hx
        rw [Bool.and_eq_true] at hr
        rw [eqAV_eq hr.1, eqMem_eq hr.2] at hx
        exact does_fast names arKok hx
      · cases hr

noncomputable def shrRun (n : Nat) : Bool :=
  match execXF Tryz.prog env arK 100000 125 [sI .i64 n] [] with
  | some (.ret v m) => eqAV v (shV n) && eqMem m []
  | _ => false

theorem shrRun0 : (List.range' 0 31).all shrRun = true := by kernel_rfl
theorem shrRun1 : (List.range' 31 30).all shrRun = true := by kernel_rfl
theorem shrRun2 : (List.range' 61 30).all shrRun = true := by kernel_rfl
theorem shrRun3 : (List.range' 91 30).all shrRun = true := by kernel_rfl

theorem shrRun_all {n : Nat} (h : n < 121) : shrRun n = true := by
  have get : ∀ a k, (List.range' a k).all shrRun = true → a ≤ n → n < a + k → shrRun n = true := fun a k ha h1 h2 => List.all_eq_true.1 ha n (List.mem_range'_1.2 ⟨h1, h2⟩)
  rcases Nat.lt_or_ge n 31 with q | q
  · exact get 0 31 shrRun0 (by omega) (by omega)
  rcases Nat.lt_or_ge n 61 with q | q
  · exact get 31 30 shrRun1 (by omega) (by omega)
  rcases Nat.lt_or_ge n 91 with q | q
  · exact get 61 30 shrRun2 (by omega) (by omega)
  · exact get 91 30 shrRun3 (by omega) (by omega)

theorem shr_does (op : Int) : Does Tryz.prog env 125 [sI .i64 op] [] (shV op) [] := by
  by_cases h0 : op < 0
  · rw [shV_out (.inl h0)]
    refine does_of_tree names (srL_tree op) ?_
    simp only [srLTree, Tree.ok, Bool.not_eq_true', beq_eq_false_iff_ne, decide_eq_true_eq, decide_eq_false_iff_not]
    repeat' first | exact True.intro | exact rfl | apply And.intro
    all_goals omega
  · by_cases h1 : 120 < op
    · rw [shV_out (.inr h1)]
      refine does_of_tree names (srH_tree op) ?_
      simp only [srHTree, Tree.ok, Bool.not_eq_true', beq_eq_false_iff_ne, decide_eq_false_iff_not, decide_eq_true_eq]
      repeat' first | exact True.intro | exact rfl | apply And.intro
      all_goals omega
    · obtain ⟨n, rfl⟩ := Int.eq_ofNat_of_zero_le (by omega : 0 ≤ op)
      have hr := shrRun_all (n := n) (by omega)
      unfold shrRun at hr
      split at hr
      · rename_i v m hx
        rw [Bool.and_eq_true] at hr
        rw [eqAV_eq hr.1, eqMem_eq hr.2] at hx
        exact does_fast names arKok hx
      · cases hr

end Go.Proofs.YtgbphddecpjlhaaGreatDoor.N
end
