/-
  EncodeLong: the law's own frame, at each length.
-/
import Derived.Test.YtljekfaoabigkaaGreatDoorEnclAw
namespace Go.Proofs.YtljekfaoabigkaaGreatDoor.N
open Go Go.Am

def callLong (k : Int) (f : FuncId) (_ : List AV) (_ : Mem) : Option (AV × Mem) :=
  cond (Nat.beq f 6) (some (sI .i64 k, [])) (cond (Nat.beq f 7 || Nat.beq f 8) (some (vLong, [])) (cond (Nat.beq f 9) (some (sB true, [])) none))
def callFit (k : Int) (L : Nat) (c7 c8 : List PV) (f : FuncId) (_ : List AV) (_ : Mem) : Option (AV × Mem) :=
  cond (Nat.beq f 6) (some (sI .i64 k, [])) (cond (Nat.beq f 7) (some (vFit L c7, [.tok])) (cond (Nat.beq f 8) (some (vFit L c8, [.tok])) (cond (Nat.beq f 9) (some (sB true, [])) none)))
def treeLong (x k : Int) (N : Nat) : Tree :=
  .call ⟨6, [sI .i64 x, sI .i64 100], [], sI .i64 k, []⟩ (.call ⟨7, [mArg N], [], vLong, []⟩ (.call ⟨8, [mArg N], [], vLong, []⟩ (.call ⟨9, [], [], sB true, []⟩ (.out (.ret (sB true) [])))))
def treeFit (x k : Int) (N L : Nat) (c7 c8 : List PV) : Tree :=
  .call ⟨6, [sI .i64 x, sI .i64 100], [], sI .i64 k, []⟩ (.call ⟨7, [mArg N], [], vFit L c7, [.tok]⟩ (.call ⟨8, [mArg N], [], vFit L c8, [.tok]⟩ (.call ⟨9, [], [], sB true, []⟩ (.out (.ret (sB true) [])))))
def LLong (k : Nat) : Prop := ∀ x : Int, growF Tryz.prog env (orc (callLong (k : Int)) [] [] []) 100000 3 [sI .i64 x] [] .fin = treeLong x (k : Int) (1048576 - k)
def LFit (k : Nat) : Prop := ∀ (x : Int) (c7 c8 : List PV), growF Tryz.prog env (orc (callFit (k : Int) (1048594 - k) c7 c8) [] [] []) 100000 3 [sI .i64 x] [] .fin = treeFit x (k : Int) (1048576 - k) (1048594 - k) c7 c8

theorem ll0 : LLong 0 := fun x => by kernel_rfl
theorem ll1 : LLong 1 := fun x => by kernel_rfl
theorem ll2 : LLong 2 := fun x => by kernel_rfl
theorem ll3 : LLong 3 := fun x => by kernel_rfl
theorem ll4 : LLong 4 := fun x => by kernel_rfl
theorem ll5 : LLong 5 := fun x => by kernel_rfl
theorem ll6 : LLong 6 := fun x => by kernel_rfl
theorem ll7 : LLong 7 := fun x => by kernel_rfl
theorem ll8 : LLong 8 := fun x => by kernel_rfl
theorem ll9 : LLong 9 := fun x => by kernel_rfl
theorem ll10 : LLong 10 := fun x => by kernel_rfl
theorem ll11 : LLong 11 := fun x => by kernel_rfl
theorem ll12 : LLong 12 := fun x => by kernel_rfl
theorem ll13 : LLong 13 := fun x => by kernel_rfl
theorem ll14 : LLong 14 := fun x => by kernel_rfl
theorem ll15 : LLong 15 := fun x => by kernel_rfl
theorem ll16 : LLong 16 := fun x => by kernel_rfl
theorem ll17 : LLong 17 := fun x => by kernel_rfl
theorem lf18 : LFit 18 := fun x c7 c8 => by kernel_rfl
theorem lf19 : LFit 19 := fun x c7 c8 => by kernel_rfl
theorem lf20 : LFit 20 := fun x c7 c8 => by kernel_rfl
theorem lf21 : LFit 21 := fun x c7 c8 => by kernel_rfl
theorem lf22 : LFit 22 := fun x c7 c8 => by kernel_rfl
theorem lf23 : LFit 23 := fun x c7 c8 => by kernel_rfl
theorem lf24 : LFit 24 := fun x c7 c8 => by kernel_rfl
theorem lf25 : LFit 25 := fun x c7 c8 => by kernel_rfl
theorem lf26 : LFit 26 := fun x c7 c8 => by kernel_rfl
theorem lf27 : LFit 27 := fun x c7 c8 => by kernel_rfl
theorem lf28 : LFit 28 := fun x c7 c8 => by kernel_rfl
theorem lf29 : LFit 29 := fun x c7 c8 => by kernel_rfl
theorem lf30 : LFit 30 := fun x c7 c8 => by kernel_rfl
theorem lf31 : LFit 31 := fun x c7 c8 => by kernel_rfl
theorem lf32 : LFit 32 := fun x c7 c8 => by kernel_rfl
theorem lf33 : LFit 33 := fun x c7 c8 => by kernel_rfl
theorem lf34 : LFit 34 := fun x c7 c8 => by kernel_rfl
theorem lf35 : LFit 35 := fun x c7 c8 => by kernel_rfl
theorem lf36 : LFit 36 := fun x c7 c8 => by kernel_rfl
theorem lf37 : LFit 37 := fun x c7 c8 => by kernel_rfl
theorem lf38 : LFit 38 := fun x c7 c8 => by kernel_rfl
theorem lf39 : LFit 39 := fun x c7 c8 => by kernel_rfl
theorem lf40 : LFit 40 := fun x c7 c8 => by kernel_rfl
theorem lf41 : LFit 41 := fun x c7 c8 => by kernel_rfl
theorem lf42 : LFit 42 := fun x c7 c8 => by kernel_rfl
theorem lf43 : LFit 43 := fun x c7 c8 => by kernel_rfl
theorem lf44 : LFit 44 := fun x c7 c8 => by kernel_rfl
theorem lf45 : LFit 45 := fun x c7 c8 => by kernel_rfl
theorem lf46 : LFit 46 := fun x c7 c8 => by kernel_rfl
theorem lf47 : LFit 47 := fun x c7 c8 => by kernel_rfl
theorem lf48 : LFit 48 := fun x c7 c8 => by kernel_rfl
theorem lf49 : LFit 49 := fun x c7 c8 => by kernel_rfl
theorem lf50 : LFit 50 := fun x c7 c8 => by kernel_rfl
theorem lf51 : LFit 51 := fun x c7 c8 => by kernel_rfl
theorem lf52 : LFit 52 := fun x c7 c8 => by kernel_rfl
theorem lf53 : LFit 53 := fun x c7 c8 => by kernel_rfl
theorem lf54 : LFit 54 := fun x c7 c8 => by kernel_rfl
theorem lf55 : LFit 55 := fun x c7 c8 => by kernel_rfl
theorem lf56 : LFit 56 := fun x c7 c8 => by kernel_rfl
theorem lf57 : LFit 57 := fun x c7 c8 => by kernel_rfl
theorem lf58 : LFit 58 := fun x c7 c8 => by kernel_rfl
theorem lf59 : LFit 59 := fun x c7 c8 => by kernel_rfl
theorem lf60 : LFit 60 := fun x c7 c8 => by kernel_rfl
theorem lf61 : LFit 61 := fun x c7 c8 => by kernel_rfl
theorem lf62 : LFit 62 := fun x c7 c8 => by kernel_rfl
theorem lf63 : LFit 63 := fun x c7 c8 => by kernel_rfl
theorem lf64 : LFit 64 := fun x c7 c8 => by kernel_rfl
theorem lf65 : LFit 65 := fun x c7 c8 => by kernel_rfl
theorem lf66 : LFit 66 := fun x c7 c8 => by kernel_rfl
theorem lf67 : LFit 67 := fun x c7 c8 => by kernel_rfl
theorem lf68 : LFit 68 := fun x c7 c8 => by kernel_rfl
theorem lf69 : LFit 69 := fun x c7 c8 => by kernel_rfl
theorem lf70 : LFit 70 := fun x c7 c8 => by kernel_rfl
theorem lf71 : LFit 71 := fun x c7 c8 => by kernel_rfl
theorem lf72 : LFit 72 := fun x c7 c8 => by kernel_rfl
theorem lf73 : LFit 73 := fun x c7 c8 => by kernel_rfl
theorem lf74 : LFit 74 := fun x c7 c8 => by kernel_rfl
theorem lf75 : LFit 75 := fun x c7 c8 => by kernel_rfl
theorem lf76 : LFit 76 := fun x c7 c8 => by kernel_rfl
theorem lf77 : LFit 77 := fun x c7 c8 => by kernel_rfl
theorem lf78 : LFit 78 := fun x c7 c8 => by kernel_rfl
theorem lf79 : LFit 79 := fun x c7 c8 => by kernel_rfl
theorem lf80 : LFit 80 := fun x c7 c8 => by kernel_rfl
theorem lf81 : LFit 81 := fun x c7 c8 => by kernel_rfl
theorem lf82 : LFit 82 := fun x c7 c8 => by kernel_rfl
theorem lf83 : LFit 83 := fun x c7 c8 => by kernel_rfl
theorem lf84 : LFit 84 := fun x c7 c8 => by kernel_rfl
theorem lf85 : LFit 85 := fun x c7 c8 => by kernel_rfl
theorem lf86 : LFit 86 := fun x c7 c8 => by kernel_rfl
theorem lf87 : LFit 87 := fun x c7 c8 => by kernel_rfl
theorem lf88 : LFit 88 := fun x c7 c8 => by kernel_rfl
theorem lf89 : LFit 89 := fun x c7 c8 => by kernel_rfl
theorem lf90 : LFit 90 := fun x c7 c8 => by kernel_rfl
theorem lf91 : LFit 91 := fun x c7 c8 => by kernel_rfl
theorem lf92 : LFit 92 := fun x c7 c8 => by kernel_rfl
theorem lf93 : LFit 93 := fun x c7 c8 => by kernel_rfl
theorem lf94 : LFit 94 := fun x c7 c8 => by kernel_rfl
theorem lf95 : LFit 95 := fun x c7 c8 => by kernel_rfl
theorem lf96 : LFit 96 := fun x c7 c8 => by kernel_rfl
theorem lf97 : LFit 97 := fun x c7 c8 => by kernel_rfl
theorem lf98 : LFit 98 := fun x c7 c8 => by kernel_rfl
theorem lf99 : LFit 99 := fun x c7 c8 => by kernel_rfl

theorem ll_all : ∀ k, k < 18 → LLong k
  | 0, _ => ll0
  | 1, _ => ll1
  | 2, _ => ll2
  | 3, _ => ll3
  | 4, _ => ll4
  | 5, _ => ll5
  | 6, _ => ll6
  | 7, _ => ll7
  | 8, _ => ll8
  | 9, _ => ll9
  | 10, _ => ll10
  | 11, _ => ll11
  | 12, _ => ll12
  | 13, _ => ll13
  | 14, _ => ll14
  | 15, _ => ll15
  | 16, _ => ll16
  | 17, _ => ll17
  | n + 18, h => absurd h (by omega)

theorem lf_all : ∀ k, k < 82 → LFit (k + 18)
  | 0, _ => lf18
  | 1, _ => lf19
  | 2, _ => lf20
  | 3, _ => lf21
  | 4, _ => lf22
  | 5, _ => lf23
  | 6, _ => lf24
  | 7, _ => lf25
  | 8, _ => lf26
  | 9, _ => lf27
  | 10, _ => lf28
  | 11, _ => lf29
  | 12, _ => lf30
  | 13, _ => lf31
  | 14, _ => lf32
  | 15, _ => lf33
  | 16, _ => lf34
  | 17, _ => lf35
  | 18, _ => lf36
  | 19, _ => lf37
  | 20, _ => lf38
  | 21, _ => lf39
  | 22, _ => lf40
  | 23, _ => lf41
  | 24, _ => lf42
  | 25, _ => lf43
  | 26, _ => lf44
  | 27, _ => lf45
  | 28, _ => lf46
  | 29, _ => lf47
  | 30, _ => lf48
  | 31, _ => lf49
  | 32, _ => lf50
  | 33, _ => lf51
  | 34, _ => lf52
  | 35, _ => lf53
  | 36, _ => lf54
  | 37, _ => lf55
  | 38, _ => lf56
  | 39, _ => lf57
  | 40, _ => lf58
  | 41, _ => lf59
  | 42, _ => lf60
  | 43, _ => lf61
  | 44, _ => lf62
  | 45, _ => lf63
  | 46, _ => lf64
  | 47, _ => lf65
  | 48, _ => lf66
  | 49, _ => lf67
  | 50, _ => lf68
  | 51, _ => lf69
  | 52, _ => lf70
  | 53, _ => lf71
  | 54, _ => lf72
  | 55, _ => lf73
  | 56, _ => lf74
  | 57, _ => lf75
  | 58, _ => lf76
  | 59, _ => lf77
  | 60, _ => lf78
  | 61, _ => lf79
  | 62, _ => lf80
  | 63, _ => lf81
  | 64, _ => lf82
  | 65, _ => lf83
  | 66, _ => lf84
  | 67, _ => lf85
  | 68, _ => lf86
  | 69, _ => lf87
  | 70, _ => lf88
  | 71, _ => lf89
  | 72, _ => lf90
  | 73, _ => lf91
  | 74, _ => lf92
  | 75, _ => lf93
  | 76, _ => lf94
  | 77, _ => lf95
  | 78, _ => lf96
  | 79, _ => lf97
  | 80, _ => lf98
  | 81, _ => lf99
  | n + 82, h => absurd h (by omega)

end Go.Proofs.YtljekfaoabigkaaGreatDoor.N
