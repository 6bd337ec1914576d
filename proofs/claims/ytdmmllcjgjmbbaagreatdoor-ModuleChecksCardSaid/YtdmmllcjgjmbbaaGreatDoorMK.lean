/-
What module.Check looks for in a module's lists.
-/
import Derived.Test.YtdmmllcjgjmbbaaGreatDoorMI
import Derived.Test.YtdmmllcjgjmbbaaGreatDoorMJ
section
set_option linter.unusedSimpArgs false
set_option linter.unusedVariables false
namespace Go.Proofs.YtdmmllcjgjmbbaaGreatDoor.N
open Go Go.Am
def aaA (k i:Nat) (cs:List PV) (ok:Bool) (f:FuncId) (_:List AV) (m:Mem):Option (AV×Mem):=cond (Nat.beq f 53) (some (sB ok,m)) none
def aaB (k i:Nat) (cs:List PV) (ok:Bool) (f:FuncId) (_:List AV) (m:Mem):Option (AV×Mem):=cond (Nat.beq f 57) (some (sB ok,m)) none
def aaC (k i:Nat) (cs:List PV) (ok:Bool) (f:FuncId) (_:List AV) (m:Mem):Option (AV×Mem):=cond (Nat.beq f 66) (some (sB ok,m)) none
def aaD (k i:Nat) (cs:List PV) (ok:Bool) (f:FuncId) (_:List AV) (m:Mem):Option (AV×Mem):=cond (Nat.beq f 59) (some (sB ok,m)) none
def aaE (k i:Nat) (cs:List PV) (ok:Bool) (f:FuncId) (_:List AV) (m:Mem):Option (AV×Mem):=cond (Nat.beq f 62) (some (sB ok,m)) none
def aaF (k i:Nat) (cs:List PV) (ok:Bool) (f:FuncId) (_:List AV) (m:Mem):Option (AV×Mem):=cond (Nat.beq f 65) (some (sB ok,m)) none
def aaG (k i:Nat) (cs:List PV) (ok:Bool) (f:FuncId) (_:List AV) (m:Mem):Option (AV×Mem):=cond (Nat.beq f 69) (some (sB ok,m)) none
def aaH (k i:Nat) (cs:List PV) (ok:Bool) (f:FuncId) (_:List AV) (m:Mem):Option (AV×Mem):=cond (Nat.beq f 71) (some (sB ok,m)) none
def aaI (k i:Nat) (cs:List PV) (ok:Bool) (f:FuncId) (_:List AV) (m:Mem):Option (AV×Mem):=cond (Nat.beq f 73) (some (sB ok,m)) none
def aaJ (k:Nat) (cs:List PV) (r:Int) (f:FuncId) (_:List AV) (m:Mem):Option (AV×Mem):=cond (Nat.beq f 105) (some (sI .i64 r,m)) none
def aaK (k:Nat) (cs:List PV) (r:Int) (f:FuncId) (_:List AV) (m:Mem):Option (AV×Mem):=cond (Nat.beq f 107) (some (sI .i64 r,m)) none
def aaL (k:Nat) (cs:List PV) (r:Int) (f:FuncId) (_:List AV) (m:Mem):Option (AV×Mem):=cond (Nat.beq f 107) (some (sI .i64 r,m)) none
def aaM (k:Nat) (cs:List PV) (r:Int) (f:FuncId) (_:List AV) (m:Mem):Option (AV×Mem):=cond (Nat.beq f 108) (some (sI .i64 r,m)) none
def aaN (k:Nat) (cs:List PV) (r:Int) (f:FuncId) (_:List AV) (m:Mem):Option (AV×Mem):=cond (Nat.beq f 109) (some (sI .i64 r,m)) none
def aaO (k:Nat) (cs:List PV) (r:Int) (f:FuncId) (_:List AV) (m:Mem):Option (AV×Mem):=cond (Nat.beq f 110) (some (sI .i64 r,m)) none
def aaP (k:Nat) (cs:List PV) (r:Int) (f:FuncId) (_:List AV) (m:Mem):Option (AV×Mem):=cond (Nat.beq f 112) (some (sI .i64 r,m)) none
def aaQ (k:Nat) (cs:List PV) (r:Int) (f:FuncId) (_:List AV) (m:Mem):Option (AV×Mem):=cond (Nat.beq f 112) (some (sI .i64 r,m)) none
def aaR (k:Nat) (cs:List PV) (r:Int) (f:FuncId) (_:List AV) (m:Mem):Option (AV×Mem):=cond (Nat.beq f 25) (some (sI .i64 r,m)) none
def aaS (s:ByteArray) (r:Int) (f:FuncId) (_:List AV) (m:Mem):Option (AV×Mem):=cond (Nat.beq f 67) (some (sI .i64 r,m)) none
def aaT (x:Ty) (e:Int) (f:FuncId) (_:List AV) (m:Mem):Option (AV×Mem):=cond (Nat.beq f 60) (some (sI .i64 e,m)) none
def Xq (x:Li) (e:Int) (f:FuncId) (_:List AV) (m:Mem):Option (AV×Mem):=cond (Nat.beq f 70) (some (sI .i64 e,m)) none
def liC (M:Mo) (e:Int) (n:Nat) (cs:List PV) (f:FuncId) (_:List AV) (m:Mem):Option (AV×Mem):=cond (Nat.beq f 34) (some (.p (.ps n 1 cs),m)) none
def aaU (e:Int) (k i:Nat) (cs:List PV) (r:Int) (f:FuncId) (_:List AV) (m:Mem):Option (AV×Mem):=cond (Nat.beq f 106) (some (sI .i64 r,m)) none
def loC (M:Mo) (k i:Nat) (left:Int) (cs:List PV) (n:Nat) (ns:List PV) (lg:Bool) (f:FuncId) (_:List AV) (m:Mem):Option (AV×Mem):=cond (Nat.beq f 56) (some (.p (.ps n 1 ns),m)) (cond (Nat.beq f 55) (some (sB lg,m)) none)
def maC (M:Mo) (b:Bool) (e:Int) (f:FuncId) (_:List AV) (m:Mem):Option (AV×Mem):=cond (Nat.beq f 52) (some (sB b,m)) (cond (Nat.beq f 54) (some (sI .i64 e,m)) none)
def mcC (M:Mo) (a b c:Int) (fn:FuncId) (_:List AV) (m:Mem):Option (AV×Mem):=cond (Nat.beq fn 27) (some (sI .i64 a,m)) (cond (Nat.beq fn 28) (some (sI .i64 b,m)) (cond (Nat.beq fn 29) (some (sI .i64 c,m)) none))
noncomputable def Oe:bu:=aK av az [(105,0)] [] []
def SN:Sc:= .fin
noncomputable def Kc (k:Nat) (cs:List PV):Tree:=
 (.at (af Tryz.prog env 105 0 [.p (.ps k 2 cs),.fn (Fn.func 53) [] [],sI .i64 (↑k:Int),sI .i64 0] ([]) 0 19))
theorem G2 (k:Nat) (cs:List PV):aR Tryz.prog env Oe 1000000 105 ([AV.p (PV.ps k 2 cs),AV.fn (Fn.func 53) [] []]) ([]) SN=Kc k cs:=by kernel_rfl
noncomputable def SO (k:Nat) (i:Nat) (cs:List PV) (ok:Bool):bu:=aK (aaA k i cs ok) az [(105,0)] [(105,0,1),(105,0,2)] [(105,5,3),(105,5,4)]
def Xr:Sc:= .fin
noncomputable def Ao (k:Nat) (i:Nat) (cs:List PV) (ok:Bool):Tree:=
 (.test (decide ((↑i:Int)<(↑k:Int)))
 (.must (aG (↑i:Int) k&&true&&true)
 (.must (aH (cs.getD ((↑i:Int).toNat*2) PV.bad)&&(aH (cs.getD ((↑i:Int).toNat*2+1) PV.bad)&&true)&&true)
 (.call ⟨53,[.agg [.p (.ps (aq (cs.getD ((↑i:Int).toNat*2) PV.bad)) (aA (cs.getD ((↑i:Int).toNat*2) PV.bad)) (aj (cs.getD ((↑i:Int).toNat*2) PV.bad))),.p (.ps (aq (cs.getD ((↑i:Int).toNat*2+1) PV.bad)) (aA (cs.getD ((↑i:Int).toNat*2+1) PV.bad)) (aj (cs.getD ((↑i:Int).toNat*2+1) PV.bad)))]],[],.p (.sc (.bool ok)),[]⟩
 (.test (ok)
 (.out (.ret (sI .i64 (↑i:Int)) []))
 (.at (af Tryz.prog env 105 0 [.p (.ps k 2 cs),.fn (Fn.func 53) [] [],sI .i64 (↑k:Int),sI .i64 (IntKind.i64.wrap ((↑i:Int)+1))] ([]) 0 19))))))
 (.out (.ret (sI .i64 (-1)) [])))
theorem BY (k:Nat) (i:Nat) (cs:List PV) (ok:Bool):grow Tryz.prog env (SO k i cs ok) 1000000 true (af Tryz.prog env 105 0 ([AV.p (PV.ps k 2 cs),AV.fn (Fn.func 53) [] [],sI IntKind.i64 (↑k:Int),sI IntKind.i64 (↑i:Int)]) ([]) 0 19) Xr atEnd=Ao k i cs ok:=by kernel_rfl
noncomputable def Of:bu:=aK av az [(107,0)] [] []
def SP:Sc:= .fin
noncomputable def Kd (k:Nat) (cs:List PV):Tree:=
 (.at (af Tryz.prog env 107 0 [.p (.ps k 1 cs),.fn (Fn.func 57) [] [],sI .i64 (↑k:Int),sI .i64 0] ([]) 0 19))
theorem G3 (k:Nat) (cs:List PV):aR Tryz.prog env Of 1000000 107 ([AV.p (PV.ps k 1 cs),AV.fn (Fn.func 57) [] []]) ([]) SP=Kd k cs:=by kernel_rfl
noncomputable def SQ (k:Nat) (i:Nat) (cs:List PV) (ok:Bool):bu:=aK (aaB k i cs ok) az [(107,0)] [(107,0,1),(107,0,2)] [(107,5,3),(107,5,4)]
def Xs:Sc:= .fin
noncomputable def Ap (k:Nat) (i:Nat) (cs:List PV) (ok:Bool):Tree:=
 (.test (decide ((↑i:Int)<(↑k:Int)))
 (.must (aG (↑i:Int) k&&true&&true)
 (.must (isStr (cs.getD ((↑i:Int).toNat*1) PV.bad)&&true)
 (.call ⟨57,[.p (.sc (.string (aN (cs.getD ((↑i:Int).toNat*1) PV.bad))))],[],.p (.sc (.bool ok)),[]⟩
 (.test (ok)
 (.out (.ret (sI .i64 (↑i:Int)) []))
 (.at (af Tryz.prog env 107 0 [.p (.ps k 1 cs),.fn (Fn.func 57) [] [],sI .i64 (↑k:Int),sI .i64 (IntKind.i64.wrap ((↑i:Int)+1))] ([]) 0 19))))))
 (.out (.ret (sI .i64 (-1)) [])))
theorem BZ (k:Nat) (i:Nat) (cs:List PV) (ok:Bool):grow Tryz.prog env (SQ k i cs ok) 1000000 true (af Tryz.prog env 107 0 ([AV.p (PV.ps k 1 cs),AV.fn (Fn.func 57) [] [],sI IntKind.i64 (↑k:Int),sI IntKind.i64 (↑i:Int)]) ([]) 0 19) Xs atEnd=Ap k i cs ok:=by kernel_rfl
noncomputable def Og:bu:=aK av az [(107,0)] [] []
def SR:Sc:= .fin
noncomputable def Ke (k:Nat) (cs:List PV):Tree:=
 (.at (af Tryz.prog env 107 0 [.p (.ps k 1 cs),.fn (Fn.func 66) [] [],sI .i64 (↑k:Int),sI .i64 0] ([]) 0 19))
theorem G4 (k:Nat) (cs:List PV):aR Tryz.prog env Og 1000000 107 ([AV.p (PV.ps k 1 cs),AV.fn (Fn.func 66) [] []]) ([]) SR=Ke k cs:=by kernel_rfl
noncomputable def SS (k:Nat) (i:Nat) (cs:List PV) (ok:Bool):bu:=aK (aaC k i cs ok) az [(107,0)] [(107,0,1),(107,0,2)] [(107,5,3),(107,5,4)]
def Xt:Sc:= .fin
noncomputable def Aq (k:Nat) (i:Nat) (cs:List PV) (ok:Bool):Tree:=
 (.test (decide ((↑i:Int)<(↑k:Int)))
 (.must (aG (↑i:Int) k&&true&&true)
 (.must (isStr (cs.getD ((↑i:Int).toNat*1) PV.bad)&&true)
 (.call ⟨66,[.p (.sc (.string (aN (cs.getD ((↑i:Int).toNat*1) PV.bad))))],[],.p (.sc (.bool ok)),[]⟩
 (.test (ok)
 (.out (.ret (sI .i64 (↑i:Int)) []))
 (.at (af Tryz.prog env 107 0 [.p (.ps k 1 cs),.fn (Fn.func 66) [] [],sI .i64 (↑k:Int),sI .i64 (IntKind.i64.wrap ((↑i:Int)+1))] ([]) 0 19))))))
 (.out (.ret (sI .i64 (-1)) [])))
theorem B0 (k:Nat) (i:Nat) (cs:List PV) (ok:Bool):grow Tryz.prog env (SS k i cs ok) 1000000 true (af Tryz.prog env 107 0 ([AV.p (PV.ps k 1 cs),AV.fn (Fn.func 66) [] [],sI IntKind.i64 (↑k:Int),sI IntKind.i64 (↑i:Int)]) ([]) 0 19) Xt atEnd=Aq k i cs ok:=by kernel_rfl
noncomputable def Oh:bu:=aK av az [(108,0)] [] []
def SU:Sc:= .fin
noncomputable def Kf (k:Nat) (cs:List PV):Tree:=
 (.at (af Tryz.prog env 108 0 [.p (.ps k 2 cs),.fn (Fn.func 59) [] [],sI .i64 (↑k:Int),sI .i64 0] ([]) 0 19))
theorem G5 (k:Nat) (cs:List PV):aR Tryz.prog env Oh 1000000 108 ([AV.p (PV.ps k 2 cs),AV.fn (Fn.func 59) [] []]) ([]) SU=Kf k cs:=by kernel_rfl
noncomputable def SV (k:Nat) (i:Nat) (cs:List PV) (ok:Bool):bu:=aK (aaD k i cs ok) az [(108,0)] [(108,0,1),(108,0,2)] [(108,5,3),(108,5,4)]
def Xu:Sc:= .fin
noncomputable def Ar (k:Nat) (i:Nat) (cs:List PV) (ok:Bool):Tree:=
 (.test (decide ((↑i:Int)<(↑k:Int)))
 (.must (aG (↑i:Int) k&&true&&true)
 (.must (isInt IntKind.i64 (cs.getD ((↑i:Int).toNat*2) PV.bad)&&(isInt IntKind.i64 (cs.getD ((↑i:Int).toNat*2+1) PV.bad)&&true)&&true)
 (.call ⟨59,[.agg [sI .i64 (au (cs.getD ((↑i:Int).toNat*2) PV.bad)),sI .i64 (au (cs.getD ((↑i:Int).toNat*2+1) PV.bad))]],[],.p (.sc (.bool ok)),[]⟩
 (.test (ok)
 (.out (.ret (sI .i64 (↑i:Int)) []))
 (.at (af Tryz.prog env 108 0 [.p (.ps k 2 cs),.fn (Fn.func 59) [] [],sI .i64 (↑k:Int),sI .i64 (IntKind.i64.wrap ((↑i:Int)+1))] ([]) 0 19))))))
 (.out (.ret (sI .i64 (-1)) [])))
theorem B1 (k:Nat) (i:Nat) (cs:List PV) (ok:Bool):grow Tryz.prog env (SV k i cs ok) 1000000 true (af Tryz.prog env 108 0 ([AV.p (PV.ps k 2 cs),AV.fn (Fn.func 59) [] [],sI IntKind.i64 (↑k:Int),sI IntKind.i64 (↑i:Int)]) ([]) 0 19) Xu atEnd=Ar k i cs ok:=by kernel_rfl
noncomputable def Oi:bu:=aK av az [(109,0)] [] []
def SW:Sc:= .fin
noncomputable def Kg (k:Nat) (cs:List PV):Tree:=
 (.at (af Tryz.prog env 109 0 [.p (.ps k 3 cs),.fn (Fn.func 62) [] [],sI .i64 (↑k:Int),sI .i64 0] ([]) 0 19))
theorem G6 (k:Nat) (cs:List PV):aR Tryz.prog env Oi 1000000 109 ([AV.p (PV.ps k 3 cs),AV.fn (Fn.func 62) [] []]) ([]) SW=Kg k cs:=by kernel_rfl
noncomputable def SX (k:Nat) (i:Nat) (cs:List PV) (ok:Bool):bu:=aK (aaE k i cs ok) az [(109,0)] [(109,0,1),(109,0,2)] [(109,5,3),(109,5,4)]
def Xv:Sc:= .fin
noncomputable def As (k:Nat) (i:Nat) (cs:List PV) (ok:Bool):Tree:=
 (.test (decide ((↑i:Int)<(↑k:Int)))
 (.must (aG (↑i:Int) k&&true&&true)
 (.must (isStr (cs.getD ((↑i:Int).toNat*3) PV.bad)&&(isStr (cs.getD ((↑i:Int).toNat*3+1) PV.bad)&&(isInt IntKind.i64 (cs.getD ((↑i:Int).toNat*3+1+1) PV.bad)&&true))&&true)
 (.call ⟨62,[.agg [.p (.sc (.string (aN (cs.getD ((↑i:Int).toNat*3) PV.bad)))),.p (.sc (.string (aN (cs.getD ((↑i:Int).toNat*3+1) PV.bad)))),sI .i64 (au (cs.getD ((↑i:Int).toNat*3+1+1) PV.bad))]],[],.p (.sc (.bool ok)),[]⟩
 (.test (ok)
 (.out (.ret (sI .i64 (↑i:Int)) []))
 (.at (af Tryz.prog env 109 0 [.p (.ps k 3 cs),.fn (Fn.func 62) [] [],sI .i64 (↑k:Int),sI .i64 (IntKind.i64.wrap ((↑i:Int)+1))] ([]) 0 19))))))
 (.out (.ret (sI .i64 (-1)) [])))
theorem B2 (k:Nat) (i:Nat) (cs:List PV) (ok:Bool):grow Tryz.prog env (SX k i cs ok) 1000000 true (af Tryz.prog env 109 0 ([AV.p (PV.ps k 3 cs),AV.fn (Fn.func 62) [] [],sI IntKind.i64 (↑k:Int),sI IntKind.i64 (↑i:Int)]) ([]) 0 19) Xv atEnd=As k i cs ok:=by kernel_rfl
noncomputable def Oj:bu:=aK av az [(110,0)] [] []
def SY:Sc:= .fin
noncomputable def Kh (k:Nat) (cs:List PV):Tree:=
 (.at (af Tryz.prog env 110 0 [.p (.ps k 3 cs),.fn (Fn.func 65) [] [],sI .i64 (↑k:Int),sI .i64 0] ([]) 0 19))
theorem G7 (k:Nat) (cs:List PV):aR Tryz.prog env Oj 1000000 110 ([AV.p (PV.ps k 3 cs),AV.fn (Fn.func 65) [] []]) ([]) SY=Kh k cs:=by kernel_rfl
noncomputable def SZ (k:Nat) (i:Nat) (cs:List PV) (ok:Bool):bu:=aK (aaF k i cs ok) az [(110,0)] [(110,0,1),(110,0,2)] [(110,5,3),(110,5,4)]
def Xw:Sc:= .fin
noncomputable def At (k:Nat) (i:Nat) (cs:List PV) (ok:Bool):Tree:=
 (.test (decide ((↑i:Int)<(↑k:Int)))
 (.must (aG (↑i:Int) k&&true&&true)
 (.must (isInt IntKind.i64 (cs.getD ((↑i:Int).toNat*3) PV.bad)&&(isInt IntKind.i64 (cs.getD ((↑i:Int).toNat*3+1) PV.bad)&&(aH (cs.getD ((↑i:Int).toNat*3+1+1) PV.bad)&&true))&&true)
 (.call ⟨65,[.agg [sI .i64 (au (cs.getD ((↑i:Int).toNat*3) PV.bad)),sI .i64 (au (cs.getD ((↑i:Int).toNat*3+1) PV.bad)),.p (.ps (aq (cs.getD ((↑i:Int).toNat*3+1+1) PV.bad)) (aA (cs.getD ((↑i:Int).toNat*3+1+1) PV.bad)) (aj (cs.getD ((↑i:Int).toNat*3+1+1) PV.bad)))]],[],.p (.sc (.bool ok)),[]⟩
 (.test (ok)
 (.out (.ret (sI .i64 (↑i:Int)) []))
 (.at (af Tryz.prog env 110 0 [.p (.ps k 3 cs),.fn (Fn.func 65) [] [],sI .i64 (↑k:Int),sI .i64 (IntKind.i64.wrap ((↑i:Int)+1))] ([]) 0 19))))))
 (.out (.ret (sI .i64 (-1)) [])))
theorem B3 (k:Nat) (i:Nat) (cs:List PV) (ok:Bool):grow Tryz.prog env (SZ k i cs ok) 1000000 true (af Tryz.prog env 110 0 ([AV.p (PV.ps k 3 cs),AV.fn (Fn.func 65) [] [],sI IntKind.i64 (↑k:Int),sI IntKind.i64 (↑i:Int)]) ([]) 0 19) Xw atEnd=At k i cs ok:=by kernel_rfl
noncomputable def Ol:bu:=aK av az [(112,0)] [] []
def S0:Sc:= .fin
noncomputable def Ki (k:Nat) (cs:List PV):Tree:=
 (.at (af Tryz.prog env 112 0 [.p (.ps k 3 cs),.fn (Fn.func 69) [] [],sI .i64 (↑k:Int),sI .i64 0] ([]) 0 19))
theorem G8 (k:Nat) (cs:List PV):aR Tryz.prog env Ol 1000000 112 ([AV.p (PV.ps k 3 cs),AV.fn (Fn.func 69) [] []]) ([]) S0=Ki k cs:=by kernel_rfl
noncomputable def S1 (k:Nat) (i:Nat) (cs:List PV) (ok:Bool):bu:=aK (aaG k i cs ok) az [(112,0)] [(112,0,1),(112,0,2)] [(112,5,3),(112,5,4)]
def Xx:Sc:= .fin
noncomputable def Au (k:Nat) (i:Nat) (cs:List PV) (ok:Bool):Tree:=
 (.test (decide ((↑i:Int)<(↑k:Int)))
 (.must (aG (↑i:Int) k&&true&&true)
 (.must (isInt IntKind.u32 (cs.getD ((↑i:Int).toNat*3) PV.bad)&&(isInt IntKind.u32 (cs.getD ((↑i:Int).toNat*3+1) PV.bad)&&(isBool (cs.getD ((↑i:Int).toNat*3+1+1) PV.bad)&&true))&&true)
 (.call ⟨69,[.agg [sI .u32 (au (cs.getD ((↑i:Int).toNat*3) PV.bad)),sI .u32 (au (cs.getD ((↑i:Int).toNat*3+1) PV.bad)),.p (.sc (.bool (aT (cs.getD ((↑i:Int).toNat*3+1+1) PV.bad))))]],[],.p (.sc (.bool ok)),[]⟩
 (.test (ok)
 (.out (.ret (sI .i64 (↑i:Int)) []))
 (.at (af Tryz.prog env 112 0 [.p (.ps k 3 cs),.fn (Fn.func 69) [] [],sI .i64 (↑k:Int),sI .i64 (IntKind.i64.wrap ((↑i:Int)+1))] ([]) 0 19))))))
 (.out (.ret (sI .i64 (-1)) [])))
theorem B4 (k:Nat) (i:Nat) (cs:List PV) (ok:Bool):grow Tryz.prog env (S1 k i cs ok) 1000000 true (af Tryz.prog env 112 0 ([AV.p (PV.ps k 3 cs),AV.fn (Fn.func 69) [] [],sI IntKind.i64 (↑k:Int),sI IntKind.i64 (↑i:Int)]) ([]) 0 19) Xx atEnd=Au k i cs ok:=by kernel_rfl
noncomputable def Om:bu:=aK av az [(112,0)] [] []
def S2:Sc:= .fin
noncomputable def Kj (k:Nat) (cs:List PV):Tree:=
 (.at (af Tryz.prog env 112 0 [.p (.ps k 3 cs),.fn (Fn.func 71) [] [],sI .i64 (↑k:Int),sI .i64 0] ([]) 0 19))
theorem G9 (k:Nat) (cs:List PV):aR Tryz.prog env Om 1000000 112 ([AV.p (PV.ps k 3 cs),AV.fn (Fn.func 71) [] []]) ([]) S2=Kj k cs:=by kernel_rfl
noncomputable def S3 (k:Nat) (i:Nat) (cs:List PV) (ok:Bool):bu:=aK (aaH k i cs ok) az [(112,0)] [(112,0,1),(112,0,2)] [(112,5,3),(112,5,4)]
def Xy:Sc:= .fin
noncomputable def Av (k:Nat) (i:Nat) (cs:List PV) (ok:Bool):Tree:=
 (.test (decide ((↑i:Int)<(↑k:Int)))
 (.must (aG (↑i:Int) k&&true&&true)
 (.must (isInt IntKind.u32 (cs.getD ((↑i:Int).toNat*3) PV.bad)&&(isInt IntKind.u32 (cs.getD ((↑i:Int).toNat*3+1) PV.bad)&&(isBool (cs.getD ((↑i:Int).toNat*3+1+1) PV.bad)&&true))&&true)
 (.call ⟨71,[.agg [sI .u32 (au (cs.getD ((↑i:Int).toNat*3) PV.bad)),sI .u32 (au (cs.getD ((↑i:Int).toNat*3+1) PV.bad)),.p (.sc (.bool (aT (cs.getD ((↑i:Int).toNat*3+1+1) PV.bad))))]],[],.p (.sc (.bool ok)),[]⟩
 (.test (ok)
 (.out (.ret (sI .i64 (↑i:Int)) []))
 (.at (af Tryz.prog env 112 0 [.p (.ps k 3 cs),.fn (Fn.func 71) [] [],sI .i64 (↑k:Int),sI .i64 (IntKind.i64.wrap ((↑i:Int)+1))] ([]) 0 19))))))
 (.out (.ret (sI .i64 (-1)) [])))
theorem B5 (k:Nat) (i:Nat) (cs:List PV) (ok:Bool):grow Tryz.prog env (S3 k i cs ok) 1000000 true (af Tryz.prog env 112 0 ([AV.p (PV.ps k 3 cs),AV.fn (Fn.func 71) [] [],sI IntKind.i64 (↑k:Int),sI IntKind.i64 (↑i:Int)]) ([]) 0 19) Xy atEnd=Av k i cs ok:=by kernel_rfl
noncomputable def On:bu:=aK av az [(25,0)] [] []
def S4:Sc:= .fin
noncomputable def Kk (k:Nat) (cs:List PV):Tree:=
 (.at (af Tryz.prog env 25 0 [.p (.ps k 3 cs),.fn (Fn.func 73) [] [],sI .i64 (↑k:Int),sI .i64 0] ([]) 0 19))
theorem He (k:Nat) (cs:List PV):aR Tryz.prog env On 1000000 25 ([AV.p (PV.ps k 3 cs),AV.fn (Fn.func 73) [] []]) ([]) S4=Kk k cs:=by kernel_rfl
noncomputable def S5 (k:Nat) (i:Nat) (cs:List PV) (ok:Bool):bu:=aK (aaI k i cs ok) az [(25,0)] [(25,0,1),(25,0,2)] [(25,5,3),(25,5,4)]
def Xz:Sc:= .fin
noncomputable def Aw (k:Nat) (i:Nat) (cs:List PV) (ok:Bool):Tree:=
 (.test (decide ((↑i:Int)<(↑k:Int)))
 (.must (aG (↑i:Int) k&&true&&true)
 (.must (isStr (cs.getD ((↑i:Int).toNat*3) PV.bad)&&(isInt IntKind.i64 (cs.getD ((↑i:Int).toNat*3+1) PV.bad)&&(isInt IntKind.u32 (cs.getD ((↑i:Int).toNat*3+1+1) PV.bad)&&true))&&true)
 (.call ⟨73,[.agg [.p (.sc (.string (aN (cs.getD ((↑i:Int).toNat*3) PV.bad)))),sI .i64 (au (cs.getD ((↑i:Int).toNat*3+1) PV.bad)),sI .u32 (au (cs.getD ((↑i:Int).toNat*3+1+1) PV.bad))]],[],.p (.sc (.bool ok)),[]⟩
 (.test (ok)
 (.out (.ret (sI .i64 (↑i:Int)) []))
 (.at (af Tryz.prog env 25 0 [.p (.ps k 3 cs),.fn (Fn.func 73) [] [],sI .i64 (↑k:Int),sI .i64 (IntKind.i64.wrap ((↑i:Int)+1))] ([]) 0 19))))))
 (.out (.ret (sI .i64 (-1)) [])))
theorem B6 (k:Nat) (i:Nat) (cs:List PV) (ok:Bool):grow Tryz.prog env (S5 k i cs ok) 1000000 true (af Tryz.prog env 25 0 ([AV.p (PV.ps k 3 cs),AV.fn (Fn.func 73) [] [],sI IntKind.i64 (↑k:Int),sI IntKind.i64 (↑i:Int)]) ([]) 0 19) Xz atEnd=Aw k i cs ok:=by kernel_rfl
noncomputable def S6 (k:Nat) (cs:List PV) (r:Int):bu:=aK (aaJ k cs r) az [] [] []
def XA:Sc:= .fin
noncomputable def Fh (k:Nat) (cs:List PV) (r:Int):Tree:=
 (.call ⟨105,[.p (.ps k 2 cs),.fn (Fn.func 53) [] []],[],sI .i64 r,[]⟩
 (.out (.ret (.p (.sc (.bool (decide (r≥0))))) [])))
theorem Kl (k:Nat) (cs:List PV) (r:Int):aR Tryz.prog env (S6 k cs r) 1000000 52 ([AV.p (PV.ps k 2 cs),AV.fn (Fn.func 53) [] []]) ([]) XA=Fh k cs r:=by kernel_rfl
noncomputable def S7 (k:Nat) (cs:List PV) (r:Int):bu:=aK (aaK k cs r) az [] [] []
def XB:Sc:= .fin
noncomputable def Fi (k:Nat) (cs:List PV) (r:Int):Tree:=
 (.call ⟨107,[.p (.ps k 1 cs),.fn (Fn.func 57) [] []],[],sI .i64 r,[]⟩
 (.out (.ret (.p (.sc (.bool (decide (r≥0))))) [])))
theorem Km (k:Nat) (cs:List PV) (r:Int):aR Tryz.prog env (S7 k cs r) 1000000 55 ([AV.p (PV.ps k 1 cs),AV.fn (Fn.func 57) [] []]) ([]) XB=Fi k cs r:=by kernel_rfl
noncomputable def S8 (k:Nat) (cs:List PV) (r:Int):bu:=aK (aaL k cs r) az [] [] []
def XC:Sc:= .fin
noncomputable def Fj (k:Nat) (cs:List PV) (r:Int):Tree:=
 (.call ⟨107,[.p (.ps k 1 cs),.fn (Fn.func 66) [] []],[],sI .i64 r,[]⟩
 (.out (.ret (.p (.sc (.bool (decide (r≥0))))) [])))
theorem Kn (k:Nat) (cs:List PV) (r:Int):aR Tryz.prog env (S8 k cs r) 1000000 55 ([AV.p (PV.ps k 1 cs),AV.fn (Fn.func 66) [] []]) ([]) XC=Fj k cs r:=by kernel_rfl
noncomputable def S9 (k:Nat) (cs:List PV) (r:Int):bu:=aK (aaM k cs r) az [] [] []
def XD:Sc:= .fin
noncomputable def Fk (k:Nat) (cs:List PV) (r:Int):Tree:=
 (.call ⟨108,[.p (.ps k 2 cs),.fn (Fn.func 59) [] []],[],sI .i64 r,[]⟩
 (.out (.ret (.p (.sc (.bool (decide (r≥0))))) [])))
theorem Ko (k:Nat) (cs:List PV) (r:Int):aR Tryz.prog env (S9 k cs r) 1000000 58 ([AV.p (PV.ps k 2 cs),AV.fn (Fn.func 59) [] []]) ([]) XD=Fk k cs r:=by kernel_rfl
noncomputable def Ta (k:Nat) (cs:List PV) (r:Int):bu:=aK (aaN k cs r) az [] [] []
def XE:Sc:= .fin
noncomputable def Fl (k:Nat) (cs:List PV) (r:Int):Tree:=
 (.call ⟨109,[.p (.ps k 3 cs),.fn (Fn.func 62) [] []],[],sI .i64 r,[]⟩
 (.out (.ret (.p (.sc (.bool (decide (r≥0))))) [])))
theorem Kp (k:Nat) (cs:List PV) (r:Int):aR Tryz.prog env (Ta k cs r) 1000000 61 ([AV.p (PV.ps k 3 cs),AV.fn (Fn.func 62) [] []]) ([]) XE=Fl k cs r:=by kernel_rfl
noncomputable def Tb (k:Nat) (cs:List PV) (r:Int):bu:=aK (aaO k cs r) az [] [] []
def XF:Sc:= .fin
noncomputable def Fm (k:Nat) (cs:List PV) (r:Int):Tree:=
 (.call ⟨110,[.p (.ps k 3 cs),.fn (Fn.func 65) [] []],[],sI .i64 r,[]⟩
 (.out (.ret (.p (.sc (.bool (decide (r≥0))))) [])))
theorem Kq (k:Nat) (cs:List PV) (r:Int):aR Tryz.prog env (Tb k cs r) 1000000 64 ([AV.p (PV.ps k 3 cs),AV.fn (Fn.func 65) [] []]) ([]) XF=Fm k cs r:=by kernel_rfl
noncomputable def Tc (k:Nat) (cs:List PV) (r:Int):bu:=aK (aaP k cs r) az [] [] []
def XG:Sc:= .fin
noncomputable def Fo (k:Nat) (cs:List PV) (r:Int):Tree:=
 (.call ⟨112,[.p (.ps k 3 cs),.fn (Fn.func 69) [] []],[],sI .i64 r,[]⟩
 (.out (.ret (.p (.sc (.bool (decide (r≥0))))) [])))
theorem Kr (k:Nat) (cs:List PV) (r:Int):aR Tryz.prog env (Tc k cs r) 1000000 68 ([AV.p (PV.ps k 3 cs),AV.fn (Fn.func 69) [] []]) ([]) XG=Fo k cs r:=by kernel_rfl
noncomputable def Td (k:Nat) (cs:List PV) (r:Int):bu:=aK (aaQ k cs r) az [] [] []
def XH:Sc:= .fin
noncomputable def Fp (k:Nat) (cs:List PV) (r:Int):Tree:=
 (.call ⟨112,[.p (.ps k 3 cs),.fn (Fn.func 71) [] []],[],sI .i64 r,[]⟩
 (.out (.ret (.p (.sc (.bool (decide (r≥0))))) [])))
theorem Ks (k:Nat) (cs:List PV) (r:Int):aR Tryz.prog env (Td k cs r) 1000000 68 ([AV.p (PV.ps k 3 cs),AV.fn (Fn.func 71) [] []]) ([]) XH=Fp k cs r:=by kernel_rfl
noncomputable def Te (k:Nat) (cs:List PV) (r:Int):bu:=aK (aaR k cs r) az [] [] []
def XI:Sc:= .fin
noncomputable def Fq (k:Nat) (cs:List PV) (r:Int):Tree:=
 (.call ⟨25,[.p (.ps k 3 cs),.fn (Fn.func 73) [] []],[],sI .i64 r,[]⟩
 (.out (.ret (.p (.sc (.bool (decide (r≥0))))) [])))
theorem Kt (k:Nat) (cs:List PV) (r:Int):aR Tryz.prog env (Te k cs r) 1000000 72 ([AV.p (PV.ps k 3 cs),AV.fn (Fn.func 73) [] []]) ([]) XI=Fq k cs r:=by kernel_rfl
noncomputable def Tf:bu:=aK av az [] [(60,0,0)] []
def XJ:Sc:= .fin
noncomputable def Ft (p r:Int):Tree:=
 (.test (!(fun r=>(p==bif true then Min.min (bif false then Min.min p 0 else Max.max p 0) 255 else Max.max (bif false then Min.min p 0 else Max.max p 0) 255)&&r) ((fun r_1=>(r==bif true then Min.min (bif false then Min.min r 0 else Max.max r 0) 1 else Max.max (bif false then Min.min r 0 else Max.max r 0) 1)&&r_1) true))
 (.out (.ret (sI .i64 2) []))
 (.out (.ret (sI .i64 0) [])))
theorem Ku (p r:Int):aR Tryz.prog env Tf 1000000 60 ([AV.agg [sI IntKind.i64 p,sI IntKind.i64 r]]) ([]) XJ=Ft p r:=by kernel_rfl
noncomputable def Tg:bu:=aK av az [] [(70,2,5),(70,2,8),(70,2,14),(70,2,22),(70,2,26),(70,0,0)] []
def XK:Sc:=(.fork (.lit (.lit .fin)) (.fork (.fork (.lit (.lit .fin)) (.fork (.lit .fin) (.no (.lit .fin)))) (.lit (.yes .fin))))
noncomputable def Fv (mn mx:Int) (cap:Bool) (most:Int):Tree:=
 (.test (decide (mn>most))
 (.out (.ret (sI .i64 2) []))
 (.test (cap)
 (.test (decide (mx<mn))
 (.out (.ret (sI .i64 2) []))
 (.test (decide (mx>most))
 (.out (.ret (sI .i64 2) []))
 (.must (!(!cap))
 (.out (.ret (sI .i64 0) [])))))
 (.must (!cap)
 (.test (mx != 0)
 (.out (.ret (sI .i64 2) []))
 (.out (.ret (sI .i64 0) []))))))
theorem Kv (mn mx:Int) (cap:Bool) (most:Int):aR Tryz.prog env Tg 1000000 70 ([AV.agg [sI IntKind.u32 mn,sI IntKind.u32 mx,sB cap],sI IntKind.u32 most]) ([]) XK=Fv mn mx cap most:=by kernel_rfl
noncomputable def Th:bu:=aK av az [] [] []
def XL:Sc:= .fin
noncomputable def Oo (x:El):Tree:=
 (.out (.ret (.p (.sc (.bool (decide ((↑x.fs.length:Int)>16384))))) []))
theorem Kw (x:El):aR Tryz.prog env Th 1000000 53 ([AV.agg (List.map AV.p (aJ x))]) ([]) XL=Oo x:=by kernel_rfl
noncomputable def Ti:bu:=aK av az [] [] []
def XM:Sc:= .fin
noncomputable def Oq (s:ByteArray):Tree:=
 (.out (.ret (.p (.sc (.bool (decide ((↑s.data.toList.length:Int)>1000))))) []))
theorem Kx (s:ByteArray):aR Tryz.prog env Ti 1000000 57 ([AV.p (PV.sc (Value.string s))]) ([]) XM=Oq s:=by kernel_rfl
noncomputable def Tj (s:ByteArray) (r:Int):bu:=aK (aaS s r) az [] [] []
def XN:Sc:= .fin
noncomputable def Ot (s:ByteArray) (r:Int):Tree:=
 (.call ⟨67,[.os (some 0) s.data.toList.length 1 (List.map fc s.data.toList)],[.tok],sI .i64 r,[.tok]⟩
 (.out (.ret (.p (.sc (.bool (decide (r≥0))))) [])))
theorem Ky (s:ByteArray) (r:Int):aR Tryz.prog env (Tj s r) 1000000 66 ([AV.p (PV.sc (Value.string s))]) ([]) XN=Ot s r:=by kernel_rfl
noncomputable def Tk (x:Ty) (e:Int):bu:=aK (aaT x e) az [] [] []
def XO:Sc:= .fin
noncomputable def Ou (x:Ty) (e:Int):Tree:=
 (.call ⟨60,[.agg [sI .i64 x.p,sI .i64 x.r]],[],sI .i64 e,[]⟩
 (.out (.ret (.p (.sc (.bool (e != 0)))) [])))
theorem Kz (x:Ty) (e:Int):aR Tryz.prog env (Tk x e) 1000000 59 ([AV.agg (List.map AV.p (aZ x))]) ([]) XO=Ou x e:=by kernel_rfl
noncomputable def Tl:bu:=aK av az [] [(63,2,3)] []
def XP:Sc:= .fin
noncomputable def Fw (x:Im):Tree:=
 (.test (decide (x.ty≥0))
 (.out (.ret (.p (.sc (.bool !decide (x.ty≤2147483647)))) []))
 (.out (.ret (sB true) [])))
theorem KA (x:Im):aR Tryz.prog env Tl 1000000 62 ([AV.agg (List.map AV.p (aQ x))]) ([]) XP=Fw x:=by kernel_rfl
noncomputable def Tm (x:Li) (e:Int):bu:=aK (Xq x e) az [] [] []
def XQ:Sc:= .fin
noncomputable def Ov (x:Li) (e:Int):Tree:=
 (.call ⟨70,[.agg [sI .u32 x.mn,sI .u32 x.mx,.p (.sc (.bool x.cap))],sI .u32 1048576],[],sI .i64 e,[]⟩
 (.out (.ret (.p (.sc (.bool (e != 0)))) [])))
theorem KB (x:Li) (e:Int):aR Tryz.prog env (Tm x e) 1000000 69 ([AV.agg (List.map AV.p (aF x))]) ([]) XQ=Ov x e:=by kernel_rfl
noncomputable def Tn (x:Li) (e:Int):bu:=aK (Xq x e) az [] [] []
def XR:Sc:= .fin
noncomputable def Ow (x:Li) (e:Int):Tree:=
 (.call ⟨70,[.agg [sI .u32 x.mn,sI .u32 x.mx,.p (.sc (.bool x.cap))],sI .u32 65536],[],sI .i64 e,[]⟩
 (.out (.ret (.p (.sc (.bool (e != 0)))) [])))
theorem KC (x:Li) (e:Int):aR Tryz.prog env (Tn x e) 1000000 71 ([AV.agg (List.map AV.p (aF x))]) ([]) XR=Ow x e:=by kernel_rfl
noncomputable def To:bu:=aK av az [] [(73,2,4)] []
def XS:Sc:= .fin
noncomputable def Fx (x:Ex):Tree:=
 (.test (decide (x.kind<0))
 (.out (.ret (sB true) []))
 (.out (.ret (.p (.sc (.bool (decide (x.kind>3))))) [])))
theorem KD (x:Ex):aR Tryz.prog env To 1000000 73 ([AV.agg (List.map AV.p (aP x))]) ([]) XS=Fx x:=by kernel_rfl
noncomputable def Tp:bu:=aK av az [] [(63,2,3),(65,2,5),(65,2,11)] []
def XT:Sc:=(.fork (.fork (.lit .fin) .fin) (.lit (.lit .fin)))
noncomputable def Fy (x:Fu):Tree:=
 (.test (decide (x.ty≥0))
 (.test (!decide (x.ty≤2147483647))
 (.out (.ret (sB true) []))
 (.test (decide (x.lo<0))
 (.out (.ret (sB true) []))
 (.out (.ret (.p (.sc (.bool (decide (x.lo>50000))))) []))))
 (.out (.ret (sB true) [])))
theorem KE (x:Fu):aR Tryz.prog env Tp 1000000 65 ([AV.agg (List.map AV.p (aB x))]) ([]) XT=Fy x:=by kernel_rfl
noncomputable def Tq (M:Mo) (e:Int) (n:Nat) (cs:List PV):bu:=aK (liC M e n cs) az [(54,0)] [] []
def XU:Sc:= .fin
noncomputable def Ox (M:Mo) (e:Int) (n:Nat) (cs:List PV):Tree:=
 (.call ⟨34,[.agg (List.map AV.p M.aE)],[],.p (.ps n 1 cs),[]⟩
 (.at (af Tryz.prog env 54 0 [sI .i64 e,.p (.ps n 1 cs),sI .i64 (↑n:Int),sI .i64 0] ([]) 0 20)))
theorem KF (M:Mo) (e:Int) (n:Nat) (cs:List PV):aR Tryz.prog env (Tq M e n cs) 1000000 54 ([AV.agg (List.map AV.p M.aE),sI IntKind.i64 e]) ([]) XU=Ox M e n cs:=by kernel_rfl
noncomputable def Tr (e:Int) (k:Nat) (i:Nat) (cs:List PV) (r:Int):bu:=aK (aaU e k i cs r) az [(54,0)] [(54,0,1),(54,0,2)] [(54,4,0),(54,4,1)]
def XV:Sc:= .fin
noncomputable def Ax (e:Int) (k:Nat) (i:Nat) (cs:List PV) (r:Int):Tree:=
 (.test (decide ((↑i:Int)<(↑k:Int)))
 (.must (aG (↑i:Int) k&&true&&true)
 (.must (aH (cs.getD ((↑i:Int).toNat*1) PV.bad)&&true)
 (.call ⟨106,[.p (.ps (aq (cs.getD ((↑i:Int).toNat*1) PV.bad)) (aA (cs.getD ((↑i:Int).toNat*1) PV.bad)) (aj (cs.getD ((↑i:Int).toNat*1) PV.bad)))],[],sI .i64 r,[]⟩
 (.test (r==e)
 (.out (.ret (sI .i64 e) []))
 (.at (af Tryz.prog env 54 0 [sI .i64 e,.p (.ps k 1 cs),sI .i64 (↑k:Int),sI .i64 (IntKind.i64.wrap ((↑i:Int)+1))] ([]) 0 20))))))
 (.out (.ret (sI .i64 0) [])))
theorem B7 (e:Int) (k:Nat) (i:Nat) (cs:List PV) (r:Int):grow Tryz.prog env (Tr e k i cs r) 1000000 true (af Tryz.prog env 54 0 ([sI IntKind.i64 e,AV.p (PV.ps k 1 cs),sI IntKind.i64 (↑k:Int),sI IntKind.i64 (↑i:Int)]) ([]) 0 20) XV atEnd=Ax e k i cs r:=by kernel_rfl
noncomputable def Ts:bu:=aK av az [(28,0)] [] []
def XW:Sc:= .fin
noncomputable def Oy (M:Mo):Tree:=
 (.at (af Tryz.prog env 28 0 [.mp 0 0,sI .i64 1048576,.p (.ps M.aW.length 2 (List.flatMap aV M.aW)),sI .i64 (↑M.aW.length:Int),sI .i64 0] ([.pc M.aE]) 0 29))
theorem KG (M:Mo):aR Tryz.prog env Ts 1000000 28 ([AV.agg (List.map AV.p M.aE)]) ([]) XW=Oy M:=by kernel_rfl
noncomputable def Tt (M:Mo) (k:Nat) (i:Nat) (left:Int) (cs:List PV) (n:Nat) (ns:List PV) (lg:Bool):bu:=aK (loC M k i left cs n ns lg) az [(28,0)] [(28,0,1),(28,8,3),(28,0,2)] [(28,5,0),(28,5,1)]
def XX:Sc:=(.fork .fin (.fork (.lit .fin) .fin))
noncomputable def Ay (M:Mo) (k:Nat) (i:Nat) (left:Int) (cs:List PV) (n:Nat) (ns:List PV) (lg:Bool):Tree:=
 (.test (decide ((↑i:Int)<(↑k:Int)))
 (.must (aG (↑i:Int) k&&true&&true)
 (.must (aH (cs.getD ((↑i:Int).toNat*2) PV.bad)&&(aH (cs.getD ((↑i:Int).toNat*2+1) PV.bad)&&true)&&true)
 (.at (af Tryz.prog env 28 0 [.mp 0 0,sI .i64 (IntKind.i64.wrap (left-bif true then Min.min (↑(aq (cs.getD ((↑i:Int).toNat*2+1) PV.bad)):Int) (IntKind.i64.wrap (left+1)) else Max.max (↑(aq (cs.getD ((↑i:Int).toNat*2+1) PV.bad)):Int) (IntKind.i64.wrap (left+1)))),.p (.ps k 2 cs),sI .i64 (↑k:Int),sI .i64 (IntKind.i64.wrap ((↑i:Int)+1))] ([.pc M.aE]) 0 29))))
 (.test (decide (left<0))
 (.out (.ret (sI .i64 3) []))
 (.call ⟨56,[.agg (List.map AV.p M.aE)],[],.p (.ps n 1 ns),[]⟩
 (.call ⟨55,[.p (.ps n 1 ns),.fn (Fn.func 57) [] []],[],.p (.sc (.bool lg)),[]⟩
 (.test (lg)
 (.out (.ret (sI .i64 3) []))
 (.out (.ret (sI .i64 0) [])))))))
theorem B8 (M:Mo) (k:Nat) (i:Nat) (left:Int) (cs:List PV) (n:Nat) (ns:List PV) (lg:Bool):grow Tryz.prog env (Tt M k i left cs n ns lg) 1000000 true (af Tryz.prog env 28 0 ([AV.mp 0 0,sI IntKind.i64 left,AV.p (PV.ps k 2 cs),sI IntKind.i64 (↑k:Int),sI IntKind.i64 (↑i:Int)]) ([bg.pc M.aE]) 0 29) XX atEnd=Ay M k i left cs n ns lg:=by kernel_rfl
noncomputable def Tu (M:Mo) (b:Bool) (e:Int):bu:=aK (maC M b e) az [] [(27,3,5),(27,3,11),(27,3,15),(27,0,0)] []
def XY:Sc:=(.fork (.lit (.lit (.lit .fin))) (.fork (.lit (.lit .fin)) (.fork (.lit .fin) .fin)))
noncomputable def Fz (M:Mo) (b:Bool) (e:Int):Tree:=
 (.test (decide ((↑M.bW.length:Int)>1))
 (.out (.ret (sI .i64 141) []))
 (.test (decide ((↑M.bX.length:Int)>1))
 (.out (.ret (sI .i64 141) []))
 (.test (decide ((bif false then Min.min (bif false then Min.min (bif false then Min.min (bif false then Min.min (bif false then Min.min (bif false then Min.min (↑M.tys.length:Int) (↑M.aI.length:Int) else Max.max (↑M.tys.length:Int) (↑M.aI.length:Int)) (↑M.fns.length:Int) else Max.max (bif false then Min.min (↑M.tys.length:Int) (↑M.aI.length:Int) else Max.max (↑M.tys.length:Int) (↑M.aI.length:Int)) (↑M.fns.length:Int)) (↑M.gls.length:Int) else Max.max (bif false then Min.min (bif false then Min.min (↑M.tys.length:Int) (↑M.aI.length:Int) else Max.max (↑M.tys.length:Int) (↑M.aI.length:Int)) (↑M.fns.length:Int) else Max.max (bif false then Min.min (↑M.tys.length:Int) (↑M.aI.length:Int) else Max.max (↑M.tys.length:Int) (↑M.aI.length:Int)) (↑M.fns.length:Int)) (↑M.gls.length:Int)) (↑M.exs.length:Int) else Max.max (bif false then Min.min (bif false then Min.min (bif false then Min.min (↑M.tys.length:Int) (↑M.aI.length:Int) else Max.max (↑M.tys.length:Int) (↑M.aI.length:Int)) (↑M.fns.length:Int) else Max.max (bif false then Min.min (↑M.tys.length:Int) (↑M.aI.length:Int) else Max.max (↑M.tys.length:Int) (↑M.aI.length:Int)) (↑M.fns.length:Int)) (↑M.gls.length:Int) else Max.max (bif false then Min.min (bif false then Min.min (↑M.tys.length:Int) (↑M.aI.length:Int) else Max.max (↑M.tys.length:Int) (↑M.aI.length:Int)) (↑M.fns.length:Int) else Max.max (bif false then Min.min (↑M.tys.length:Int) (↑M.aI.length:Int) else Max.max (↑M.tys.length:Int) (↑M.aI.length:Int)) (↑M.fns.length:Int)) (↑M.gls.length:Int)) (↑M.exs.length:Int)) (↑M.els.length:Int) else Max.max (bif false then Min.min (bif false then Min.min (bif false then Min.min (bif false then Min.min (↑M.tys.length:Int) (↑M.aI.length:Int) else Max.max (↑M.tys.length:Int) (↑M.aI.length:Int)) (↑M.fns.length:Int) else Max.max (bif false then Min.min (↑M.tys.length:Int) (↑M.aI.length:Int) else Max.max (↑M.tys.length:Int) (↑M.aI.length:Int)) (↑M.fns.length:Int)) (↑M.gls.length:Int) else Max.max (bif false then Min.min (bif false then Min.min (↑M.tys.length:Int) (↑M.aI.length:Int) else Max.max (↑M.tys.length:Int) (↑M.aI.length:Int)) (↑M.fns.length:Int) else Max.max (bif false then Min.min (↑M.tys.length:Int) (↑M.aI.length:Int) else Max.max (↑M.tys.length:Int) (↑M.aI.length:Int)) (↑M.fns.length:Int)) (↑M.gls.length:Int)) (↑M.exs.length:Int) else Max.max (bif false then Min.min (bif false then Min.min (bif false then Min.min (↑M.tys.length:Int) (↑M.aI.length:Int) else Max.max (↑M.tys.length:Int) (↑M.aI.length:Int)) (↑M.fns.length:Int) else Max.max (bif false then Min.min (↑M.tys.length:Int) (↑M.aI.length:Int) else Max.max (↑M.tys.length:Int) (↑M.aI.length:Int)) (↑M.fns.length:Int)) (↑M.gls.length:Int) else Max.max (bif false then Min.min (bif false then Min.min (↑M.tys.length:Int) (↑M.aI.length:Int) else Max.max (↑M.tys.length:Int) (↑M.aI.length:Int)) (↑M.fns.length:Int) else Max.max (bif false then Min.min (↑M.tys.length:Int) (↑M.aI.length:Int) else Max.max (↑M.tys.length:Int) (↑M.aI.length:Int)) (↑M.fns.length:Int)) (↑M.gls.length:Int)) (↑M.exs.length:Int)) (↑M.els.length:Int)) (↑M.aW.length:Int) else Max.max (bif false then Min.min (bif false then Min.min (bif false then Min.min (bif false then Min.min (bif false then Min.min (↑M.tys.length:Int) (↑M.aI.length:Int) else Max.max (↑M.tys.length:Int) (↑M.aI.length:Int)) (↑M.fns.length:Int) else Max.max (bif false then Min.min (↑M.tys.length:Int) (↑M.aI.length:Int) else Max.max (↑M.tys.length:Int) (↑M.aI.length:Int)) (↑M.fns.length:Int)) (↑M.gls.length:Int) else Max.max (bif false then Min.min (bif false then Min.min (↑M.tys.length:Int) (↑M.aI.length:Int) else Max.max (↑M.tys.length:Int) (↑M.aI.length:Int)) (↑M.fns.length:Int) else Max.max (bif false then Min.min (↑M.tys.length:Int) (↑M.aI.length:Int) else Max.max (↑M.tys.length:Int) (↑M.aI.length:Int)) (↑M.fns.length:Int)) (↑M.gls.length:Int)) (↑M.exs.length:Int) else Max.max (bif false then Min.min (bif false then Min.min (bif false then Min.min (↑M.tys.length:Int) (↑M.aI.length:Int) else Max.max (↑M.tys.length:Int) (↑M.aI.length:Int)) (↑M.fns.length:Int) else Max.max (bif false then Min.min (↑M.tys.length:Int) (↑M.aI.length:Int) else Max.max (↑M.tys.length:Int) (↑M.aI.length:Int)) (↑M.fns.length:Int)) (↑M.gls.length:Int) else Max.max (bif false then Min.min (bif false then Min.min (↑M.tys.length:Int) (↑M.aI.length:Int) else Max.max (↑M.tys.length:Int) (↑M.aI.length:Int)) (↑M.fns.length:Int) else Max.max (bif false then Min.min (↑M.tys.length:Int) (↑M.aI.length:Int) else Max.max (↑M.tys.length:Int) (↑M.aI.length:Int)) (↑M.fns.length:Int)) (↑M.gls.length:Int)) (↑M.exs.length:Int)) (↑M.els.length:Int) else Max.max (bif false then Min.min (bif false then Min.min (bif false then Min.min (bif false then Min.min (↑M.tys.length:Int) (↑M.aI.length:Int) else Max.max (↑M.tys.length:Int) (↑M.aI.length:Int)) (↑M.fns.length:Int) else Max.max (bif false then Min.min (↑M.tys.length:Int) (↑M.aI.length:Int) else Max.max (↑M.tys.length:Int) (↑M.aI.length:Int)) (↑M.fns.length:Int)) (↑M.gls.length:Int) else Max.max (bif false then Min.min (bif false then Min.min (↑M.tys.length:Int) (↑M.aI.length:Int) else Max.max (↑M.tys.length:Int) (↑M.aI.length:Int)) (↑M.fns.length:Int) else Max.max (bif false then Min.min (↑M.tys.length:Int) (↑M.aI.length:Int) else Max.max (↑M.tys.length:Int) (↑M.aI.length:Int)) (↑M.fns.length:Int)) (↑M.gls.length:Int)) (↑M.exs.length:Int) else Max.max (bif false then Min.min (bif false then Min.min (bif false then Min.min (↑M.tys.length:Int) (↑M.aI.length:Int) else Max.max (↑M.tys.length:Int) (↑M.aI.length:Int)) (↑M.fns.length:Int) else Max.max (bif false then Min.min (↑M.tys.length:Int) (↑M.aI.length:Int) else Max.max (↑M.tys.length:Int) (↑M.aI.length:Int)) (↑M.fns.length:Int)) (↑M.gls.length:Int) else Max.max (bif false then Min.min (bif false then Min.min (↑M.tys.length:Int) (↑M.aI.length:Int) else Max.max (↑M.tys.length:Int) (↑M.aI.length:Int)) (↑M.fns.length:Int) else Max.max (bif false then Min.min (↑M.tys.length:Int) (↑M.aI.length:Int) else Max.max (↑M.tys.length:Int) (↑M.aI.length:Int)) (↑M.fns.length:Int)) (↑M.gls.length:Int)) (↑M.exs.length:Int)) (↑M.els.length:Int)) (↑M.aW.length:Int))>16384))
 (.out (.ret (sI .i64 141) []))
 (.call ⟨52,[.p (.ps M.els.length 2 (List.flatMap aJ M.els)),.fn (Fn.func 53) [] []],[],.p (.sc (.bool b)),[]⟩
 (.test (b)
 (.out (.ret (sI .i64 141) []))
 (.call ⟨54,[.agg (List.map AV.p M.aE),sI .i64 141],[],sI .i64 e,[]⟩
 (.out (.ret (sI .i64 e) []))))))))
theorem KH (M:Mo) (b:Bool) (e:Int):aR Tryz.prog env (Tu M b e) 1000000 27 ([AV.agg (List.map AV.p M.aE)]) ([]) XY=Fz M b e:=by kernel_rfl
noncomputable def Tv:bu:=aK av az [] [(29,3,2),(29,4,2),(29,5,2),(29,6,2),(29,7,2),(29,8,2),(29,9,2),(29,9,6),(29,0,0)] []
noncomputable def XZ (M:Mo) (a:Bool) (b:Bool) (c:Bool) (d:Bool) (e:Bool) (f:Bool) (g:Bool) (n:Nat) (ns:List PV) (r:Int):Sc:=(.ans 58 (.p (.sc (.bool a))) ([]) (.fork (.lit (.lit (.lit (.lit (.lit (.lit (.lit .fin))))))) (.ans 61 (.p (.sc (.bool b))) ([]) (.fork (.lit (.lit (.lit (.lit (.lit (.lit .fin)))))) (.ans 64 (.p (.sc (.bool c))) ([]) (.fork (.lit (.lit (.lit (.lit (.lit .fin))))) (.ans 56 (.p (.ps n 1 ns)) ([]) (.ans 55 (.p (.sc (.bool d))) ([]) (.fork (.lit (.lit (.lit (.lit .fin)))) (.ans 68 (.p (.sc (.bool e))) ([]) (.fork (.lit (.lit (.lit .fin))) (.ans 68 (.p (.sc (.bool f))) ([]) (.fork (.lit (.lit .fin)) (.ans 72 (.p (.sc (.bool g))) ([]) (.fork (.lit .fin) (.fork (.fork .fin (.ans 54 (sI .i64 r) ([]) .fin)) (.lit (.ans 54 (sI .i64 r) ([]) .fin))))))))))))))))))
noncomputable def FA (M:Mo) (a:Bool) (b:Bool) (c:Bool) (d:Bool) (e:Bool) (f:Bool) (g:Bool) (n:Nat) (ns:List PV) (r:Int):Tree:=
 (.call ⟨58,[.p (.ps M.tys.length 2 (List.flatMap aZ M.tys)),.fn (Fn.func 59) [] []],[],.p (.sc (.bool a)),[]⟩
 (.test (a)
 (.out (.ret (sI .i64 2) []))
 (.call ⟨61,[.p (.ps M.aI.length 3 (List.flatMap aQ M.aI)),.fn (Fn.func 62) [] []],[],.p (.sc (.bool b)),[]⟩
 (.test (b)
 (.out (.ret (sI .i64 2) []))
 (.call ⟨64,[.p (.ps M.fns.length 3 (List.flatMap aB M.fns)),.fn (Fn.func 65) [] []],[],.p (.sc (.bool c)),[]⟩
 (.test (c)
 (.out (.ret (sI .i64 2) []))
 (.call ⟨56,[.agg (List.map AV.p M.aE)],[],.p (.ps n 1 ns),[]⟩
 (.call ⟨55,[.p (.ps n 1 ns),.fn (Fn.func 66) [] []],[],.p (.sc (.bool d)),[]⟩
 (.test (d)
 (.out (.ret (sI .i64 2) []))
 (.call ⟨68,[.p (.ps M.bW.length 3 (List.flatMap aF M.bW)),.fn (Fn.func 69) [] []],[],.p (.sc (.bool e)),[]⟩
 (.test (e)
 (.out (.ret (sI .i64 2) []))
 (.call ⟨68,[.p (.ps M.bX.length 3 (List.flatMap aF M.bX)),.fn (Fn.func 71) [] []],[],.p (.sc (.bool f)),[]⟩
 (.test (f)
 (.out (.ret (sI .i64 2) []))
 (.call ⟨72,[.p (.ps M.exs.length 3 (List.flatMap aP M.exs)),.fn (Fn.func 73) [] []],[],.p (.sc (.bool g)),[]⟩
 (.test (g)
 (.out (.ret (sI .i64 2) []))
 (.test (!M.st)
 (.test (M.sn != 0)
 (.out (.ret (sI .i64 2) []))
 (.call ⟨54,[.agg (List.map AV.p M.aE),sI .i64 2],[],sI .i64 r,[]⟩
 (.out (.ret (sI .i64 r) []))))
 (.call ⟨54,[.agg (List.map AV.p M.aE),sI .i64 2],[],sI .i64 r,[]⟩
 (.out (.ret (sI .i64 r) [])))))))))))))))))))
theorem KI (M:Mo) (a:Bool) (b:Bool) (c:Bool) (d:Bool) (e:Bool) (f:Bool) (g:Bool) (n:Nat) (ns:List PV) (r:Int):aR Tryz.prog env Tv 1000000 29 ([AV.agg (List.map AV.p M.aE)]) ([]) (XZ M a b c d e f g n ns r)=FA M a b c d e f g n ns r:=by kernel_rfl
noncomputable def Oz (M:Mo) (a b c:Int):bu:=aK (mcC M a b c) az [] [(12,0,2)] []
def Tw:Sc:= .fin
noncomputable def B9 (M:Mo) (a b c:Int):Tree:=
 (.call ⟨27,[.agg (List.map AV.p M.aE)],[],sI .i64 a,[]⟩
 (.test (a != 0)
 (.out (.ret (sI .i64 a) []))
 (.call ⟨28,[.agg (List.map AV.p M.aE)],[],sI .i64 b,[]⟩
 (.test (b != 0)
 (.out (.ret (sI .i64 b) []))
 (.call ⟨29,[.agg (List.map AV.p M.aE)],[],sI .i64 c,[]⟩
 (.test (c != 0)
 (.out (.ret (sI .i64 c) []))
 (.out (.ret (sI .i64 0) []))))))))
theorem Hf (M:Mo) (a b c:Int):aR Tryz.prog env (Oz M a b c) 1000000 12 ([AV.agg (List.map AV.p M.aE)]) ([]) Tw=B9 M a b c:=by kernel_rfl
def eG {α:Type} (p:α→Bool):List α→Nat→Int
 |[],_=> -1
 |x::r,i=>if p x=true then i else eG p r (i+1)
theorem gu {α:Type} (p:α→Bool) : ∀(l:List α) (i:Nat),decide (eG p l i≥0)=l.any p
 |[],_=>rfl
 |x::r,i=>by
  cases h:p x with
  |true=>simp[eG,h]
  |false=>simp only[eG,h,List.any_cons,Bool.false_or];exact gu p r (i+1)
theorem gV {α:Type} {l:List α} {p:α→Bool} {D:Nat→bJ}
  (step : ∀(i:Nat) (x:α) (o:Out),l[i]? = some x→(p x=true→Out.ret (sI .i64 i) []=o)→(p x=false→Am.Good Tryz.prog env (D (i+1)) o)→Am.Good Tryz.prog env (D i) o)
  (fin:Am.Good Tryz.prog env (D l.length) (.ret (sI .i64 (-1)) [])) :
  ∀(r i:Nat),i+r=l.length→Am.Good Tryz.prog env (D i) (.ret (sI .i64 (eG p (l.drop i) i)) []):=by
 intro r
 induction r with
 |zero=>
  intro i hi
  obtain rfl:i=l.length:=by omega
  rw[List.drop_length]
  exact fin
 |succ r ih=>
  intro i hi
  have hl:i<l.length:=by omega
  rw[List.drop_eq_getElem_cons hl]
  refine step i l[i] _ (List.getElem?_eq_getElem hl) (fun q=> ?_) fun q=> ?_
  · simp only[eG,q,if_true]
  · simp only[eG,q,Bool.false_eq_true,if_false]
    exact ih (i+1) (by omega)
abbrev cS (s:ByteArray):List PV:=[.sc (.string s)]
abbrev mR (l:List Ins):List PV:=[pL l]
theorem KJ (l:List El) (hl:l.length≤10000000) (p:El→Bool) (hp : ∀x∈l,aC Tryz.prog env 53 [(.agg ((aJ x).map .p))] [] (sB (p x)) []) :
  aC Tryz.prog env 105 [.p (.ps l.length 2 (l.flatMap aJ)),.fn (.func 53) [] []] [] (sI .i64 (eG p l 0)) []:=by
 refine ah names (G2 l.length (l.flatMap aJ)) ?_
 refine gV (l:=l) (p:=p) (D:=fun i=>af Tryz.prog env 105 0 [.p (.ps l.length 2 (l.flatMap aJ)),.fn (.func 53) [] [],sI .i64 l.length,sI .i64 i] [] 0 19) ?_ ?_ l.length 0 (by omega)
 · intro i x o hx h1 h2
   have hi:i<l.length:=(List.getElem?_eq_some_iff.1 hx).1
   have c:=aM (z:=2) (enc:=aJ) (fun _=>rfl) hx
   have c0:(l.flatMap aJ).getD (i*2) .bad=pL x.l:=c 0 (by decide)
   have c1:(l.flatMap aJ).getD (i*2+1) .bad=pT .u32 x.fs:=c 1 (by decide)
   have w:IntKind.i64.wrap ((i:Int)+1)=((i+1:Nat):Int):=by rw[aD (by omega) (by omega)];rfl
   have hd:decide ((i:Int)<(l.length:Int))=true:=by simp;omega
   refine aa names (BY l.length i (l.flatMap aJ) (p x)) ?_
   simp only[Ao,Tree.ok,isStr,isInt,aH,isBool,aN,au,aT,aq,aA,aj,aG,Int.toNat_natCast,c0,c1,hd,w]
   exact⟨fun _=>⟨by first | (simp;done) | (simp;omega),rfl,hp x (List.mem_of_getElem? hx),h1,h2⟩,fun q=>(by cases q)⟩
 · have hd:decide ((l.length:Int)<(l.length:Int))=false:=by simp
   refine aa names (BY l.length l.length (l.flatMap aJ) true) ?_
   simp only[Ao,Tree.ok,hd]
   exact⟨fun q=>(by cases q),fun _=>trivial⟩
theorem KK (l:List El) (hl:l.length≤10000000) (p:El→Bool) (hp : ∀x∈l,aC Tryz.prog env 53 [(.agg ((aJ x).map .p))] [] (sB (p x)) []) :
  aC Tryz.prog env 52 [.p (.ps l.length 2 (l.flatMap aJ)),.fn (.func 53) [] []] [] (sB (l.any p)) []:=by
 refine ah names (Kl l.length (l.flatMap aJ) (eG p l 0)) ?_
 simp only[Fh,Tree.ok,gu]
 exact⟨KJ l hl p hp,trivial⟩
theorem KL (l:List ByteArray) (hl:l.length≤10000000) (p:ByteArray→Bool) (hp : ∀x∈l,aC Tryz.prog env 57 [(.p (.sc (.string x)))] [] (sB (p x)) []) :
  aC Tryz.prog env 107 [.p (.ps l.length 1 (l.flatMap cS)),.fn (.func 57) [] []] [] (sI .i64 (eG p l 0)) []:=by
 refine ah names (G3 l.length (l.flatMap cS)) ?_
 refine gV (l:=l) (p:=p) (D:=fun i=>af Tryz.prog env 107 0 [.p (.ps l.length 1 (l.flatMap cS)),.fn (.func 57) [] [],sI .i64 l.length,sI .i64 i] [] 0 19) ?_ ?_ l.length 0 (by omega)
 · intro i x o hx h1 h2
   have hi:i<l.length:=(List.getElem?_eq_some_iff.1 hx).1
   have c:=aM (z:=1) (enc:=cS) (fun _=>rfl) hx
   have c0:(l.flatMap cS).getD (i*1) .bad = .sc (.string x):=c 0 (by decide)
   have w:IntKind.i64.wrap ((i:Int)+1)=((i+1:Nat):Int):=by rw[aD (by omega) (by omega)];rfl
   have hd:decide ((i:Int)<(l.length:Int))=true:=by simp;omega
   refine aa names (BZ l.length i (l.flatMap cS) (p x)) ?_
   simp only[Ap,Tree.ok,isStr,isInt,aH,isBool,aN,au,aT,aq,aA,aj,aG,Int.toNat_natCast,c0,hd,w]
   exact⟨fun _=>⟨by first | (simp;done) | (simp;omega),rfl,hp x (List.mem_of_getElem? hx),h1,h2⟩,fun q=>(by cases q)⟩
 · have hd:decide ((l.length:Int)<(l.length:Int))=false:=by simp
   refine aa names (BZ l.length l.length (l.flatMap cS) true) ?_
   simp only[Ap,Tree.ok,hd]
   exact⟨fun q=>(by cases q),fun _=>trivial⟩
theorem KM (l:List ByteArray) (hl:l.length≤10000000) (p:ByteArray→Bool) (hp : ∀x∈l,aC Tryz.prog env 57 [(.p (.sc (.string x)))] [] (sB (p x)) []) :
  aC Tryz.prog env 55 [.p (.ps l.length 1 (l.flatMap cS)),.fn (.func 57) [] []] [] (sB (l.any p)) []:=by
 refine ah names (Km l.length (l.flatMap cS) (eG p l 0)) ?_
 simp only[Fi,Tree.ok,gu]
 exact⟨KL l hl p hp,trivial⟩
theorem KN (l:List ByteArray) (hl:l.length≤10000000) (p:ByteArray→Bool) (hp : ∀x∈l,aC Tryz.prog env 66 [(.p (.sc (.string x)))] [] (sB (p x)) []) :
  aC Tryz.prog env 107 [.p (.ps l.length 1 (l.flatMap cS)),.fn (.func 66) [] []] [] (sI .i64 (eG p l 0)) []:=by
 refine ah names (G4 l.length (l.flatMap cS)) ?_
 refine gV (l:=l) (p:=p) (D:=fun i=>af Tryz.prog env 107 0 [.p (.ps l.length 1 (l.flatMap cS)),.fn (.func 66) [] [],sI .i64 l.length,sI .i64 i] [] 0 19) ?_ ?_ l.length 0 (by omega)
 · intro i x o hx h1 h2
   have hi:i<l.length:=(List.getElem?_eq_some_iff.1 hx).1
   have c:=aM (z:=1) (enc:=cS) (fun _=>rfl) hx
   have c0:(l.flatMap cS).getD (i*1) .bad = .sc (.string x):=c 0 (by decide)
   have w:IntKind.i64.wrap ((i:Int)+1)=((i+1:Nat):Int):=by rw[aD (by omega) (by omega)];rfl
   have hd:decide ((i:Int)<(l.length:Int))=true:=by simp;omega
   refine aa names (B0 l.length i (l.flatMap cS) (p x)) ?_
   simp only[Aq,Tree.ok,isStr,isInt,aH,isBool,aN,au,aT,aq,aA,aj,aG,Int.toNat_natCast,c0,hd,w]
   exact⟨fun _=>⟨by first | (simp;done) | (simp;omega),rfl,hp x (List.mem_of_getElem? hx),h1,h2⟩,fun q=>(by cases q)⟩
 · have hd:decide ((l.length:Int)<(l.length:Int))=false:=by simp
   refine aa names (B0 l.length l.length (l.flatMap cS) true) ?_
   simp only[Aq,Tree.ok,hd]
   exact⟨fun q=>(by cases q),fun _=>trivial⟩
theorem KO (l:List ByteArray) (hl:l.length≤10000000) (p:ByteArray→Bool) (hp : ∀x∈l,aC Tryz.prog env 66 [(.p (.sc (.string x)))] [] (sB (p x)) []) :
  aC Tryz.prog env 55 [.p (.ps l.length 1 (l.flatMap cS)),.fn (.func 66) [] []] [] (sB (l.any p)) []:=by
 refine ah names (Kn l.length (l.flatMap cS) (eG p l 0)) ?_
 simp only[Fj,Tree.ok,gu]
 exact⟨KN l hl p hp,trivial⟩
theorem KP (l:List Ty) (hl:l.length≤10000000) (p:Ty→Bool) (hp : ∀x∈l,aC Tryz.prog env 59 [(.agg ((aZ x).map .p))] [] (sB (p x)) []) :
  aC Tryz.prog env 108 [.p (.ps l.length 2 (l.flatMap aZ)),.fn (.func 59) [] []] [] (sI .i64 (eG p l 0)) []:=by
 refine ah names (G5 l.length (l.flatMap aZ)) ?_
 refine gV (l:=l) (p:=p) (D:=fun i=>af Tryz.prog env 108 0 [.p (.ps l.length 2 (l.flatMap aZ)),.fn (.func 59) [] [],sI .i64 l.length,sI .i64 i] [] 0 19) ?_ ?_ l.length 0 (by omega)
 · intro i x o hx h1 h2
   have hi:i<l.length:=(List.getElem?_eq_some_iff.1 hx).1
   have c:=aM (z:=2) (enc:=aZ) (fun _=>rfl) hx
   have c0:(l.flatMap aZ).getD (i*2) .bad = .sc (.int .i64 x.p):=c 0 (by decide)
   have c1:(l.flatMap aZ).getD (i*2+1) .bad = .sc (.int .i64 x.r):=c 1 (by decide)
   have w:IntKind.i64.wrap ((i:Int)+1)=((i+1:Nat):Int):=by rw[aD (by omega) (by omega)];rfl
   have hd:decide ((i:Int)<(l.length:Int))=true:=by simp;omega
   refine aa names (B1 l.length i (l.flatMap aZ) (p x)) ?_
   simp only[Ar,Tree.ok,isStr,isInt,aH,isBool,aN,au,aT,aq,aA,aj,aG,Int.toNat_natCast,c0,c1,hd,w]
   exact⟨fun _=>⟨by first | (simp;done) | (simp;omega),rfl,hp x (List.mem_of_getElem? hx),h1,h2⟩,fun q=>(by cases q)⟩
 · have hd:decide ((l.length:Int)<(l.length:Int))=false:=by simp
   refine aa names (B1 l.length l.length (l.flatMap aZ) true) ?_
   simp only[Ar,Tree.ok,hd]
   exact⟨fun q=>(by cases q),fun _=>trivial⟩
theorem KQ (l:List Ty) (hl:l.length≤10000000) (p:Ty→Bool) (hp : ∀x∈l,aC Tryz.prog env 59 [(.agg ((aZ x).map .p))] [] (sB (p x)) []) :
  aC Tryz.prog env 58 [.p (.ps l.length 2 (l.flatMap aZ)),.fn (.func 59) [] []] [] (sB (l.any p)) []:=by
 refine ah names (Ko l.length (l.flatMap aZ) (eG p l 0)) ?_
 simp only[Fk,Tree.ok,gu]
 exact⟨KP l hl p hp,trivial⟩
theorem KR (l:List Im) (hl:l.length≤10000000) (p:Im→Bool) (hp : ∀x∈l,aC Tryz.prog env 62 [(.agg ((aQ x).map .p))] [] (sB (p x)) []) :
  aC Tryz.prog env 109 [.p (.ps l.length 3 (l.flatMap aQ)),.fn (.func 62) [] []] [] (sI .i64 (eG p l 0)) []:=by
 refine ah names (G6 l.length (l.flatMap aQ)) ?_
 refine gV (l:=l) (p:=p) (D:=fun i=>af Tryz.prog env 109 0 [.p (.ps l.length 3 (l.flatMap aQ)),.fn (.func 62) [] [],sI .i64 l.length,sI .i64 i] [] 0 19) ?_ ?_ l.length 0 (by omega)
 · intro i x o hx h1 h2
   have hi:i<l.length:=(List.getElem?_eq_some_iff.1 hx).1
   have c:=aM (z:=3) (enc:=aQ) (fun _=>rfl) hx
   have c0:(l.flatMap aQ).getD (i*3) .bad = .sc (.string x.mo):=c 0 (by decide)
   have c1:(l.flatMap aQ).getD (i*3+1) .bad = .sc (.string x.nm):=c 1 (by decide)
   have c2:(l.flatMap aQ).getD (i*3+1+1) .bad = .sc (.int .i64 x.ty):=c 2 (by decide)
   have w:IntKind.i64.wrap ((i:Int)+1)=((i+1:Nat):Int):=by rw[aD (by omega) (by omega)];rfl
   have hd:decide ((i:Int)<(l.length:Int))=true:=by simp;omega
   refine aa names (B2 l.length i (l.flatMap aQ) (p x)) ?_
   simp only[As,Tree.ok,isStr,isInt,aH,isBool,aN,au,aT,aq,aA,aj,aG,Int.toNat_natCast,c0,c1,c2,hd,w]
   exact⟨fun _=>⟨by first | (simp;done) | (simp;omega),rfl,hp x (List.mem_of_getElem? hx),h1,h2⟩,fun q=>(by cases q)⟩
 · have hd:decide ((l.length:Int)<(l.length:Int))=false:=by simp
   refine aa names (B2 l.length l.length (l.flatMap aQ) true) ?_
   simp only[As,Tree.ok,hd]
   exact⟨fun q=>(by cases q),fun _=>trivial⟩
theorem KS (l:List Im) (hl:l.length≤10000000) (p:Im→Bool) (hp : ∀x∈l,aC Tryz.prog env 62 [(.agg ((aQ x).map .p))] [] (sB (p x)) []) :
  aC Tryz.prog env 61 [.p (.ps l.length 3 (l.flatMap aQ)),.fn (.func 62) [] []] [] (sB (l.any p)) []:=by
 refine ah names (Kp l.length (l.flatMap aQ) (eG p l 0)) ?_
 simp only[Fl,Tree.ok,gu]
 exact⟨KR l hl p hp,trivial⟩
theorem KT (l:List Fu) (hl:l.length≤10000000) (p:Fu→Bool) (hp : ∀x∈l,aC Tryz.prog env 65 [(.agg ((aB x).map .p))] [] (sB (p x)) []) :
  aC Tryz.prog env 110 [.p (.ps l.length 3 (l.flatMap aB)),.fn (.func 65) [] []] [] (sI .i64 (eG p l 0)) []:=by
 refine ah names (G7 l.length (l.flatMap aB)) ?_
 refine gV (l:=l) (p:=p) (D:=fun i=>af Tryz.prog env 110 0 [.p (.ps l.length 3 (l.flatMap aB)),.fn (.func 65) [] [],sI .i64 l.length,sI .i64 i] [] 0 19) ?_ ?_ l.length 0 (by omega)
 · intro i x o hx h1 h2
   have hi:i<l.length:=(List.getElem?_eq_some_iff.1 hx).1
   have c:=aM (z:=3) (enc:=aB) (fun _=>rfl) hx
   have c0:(l.flatMap aB).getD (i*3) .bad = .sc (.int .i64 x.ty):=c 0 (by decide)
   have c1:(l.flatMap aB).getD (i*3+1) .bad = .sc (.int .i64 x.lo):=c 1 (by decide)
   have c2:(l.flatMap aB).getD (i*3+1+1) .bad=pL x.l:=c 2 (by decide)
   have w:IntKind.i64.wrap ((i:Int)+1)=((i+1:Nat):Int):=by rw[aD (by omega) (by omega)];rfl
   have hd:decide ((i:Int)<(l.length:Int))=true:=by simp;omega
   refine aa names (B3 l.length i (l.flatMap aB) (p x)) ?_
   simp only[At,Tree.ok,isStr,isInt,aH,isBool,aN,au,aT,aq,aA,aj,aG,Int.toNat_natCast,c0,c1,c2,hd,w]
   exact⟨fun _=>⟨by first | (simp;done) | (simp;omega),rfl,hp x (List.mem_of_getElem? hx),h1,h2⟩,fun q=>(by cases q)⟩
 · have hd:decide ((l.length:Int)<(l.length:Int))=false:=by simp
   refine aa names (B3 l.length l.length (l.flatMap aB) true) ?_
   simp only[At,Tree.ok,hd]
   exact⟨fun q=>(by cases q),fun _=>trivial⟩
theorem KU (l:List Fu) (hl:l.length≤10000000) (p:Fu→Bool) (hp : ∀x∈l,aC Tryz.prog env 65 [(.agg ((aB x).map .p))] [] (sB (p x)) []) :
  aC Tryz.prog env 64 [.p (.ps l.length 3 (l.flatMap aB)),.fn (.func 65) [] []] [] (sB (l.any p)) []:=by
 refine ah names (Kq l.length (l.flatMap aB) (eG p l 0)) ?_
 simp only[Fm,Tree.ok,gu]
 exact⟨KT l hl p hp,trivial⟩
theorem KV (l:List Li) (hl:l.length≤10000000) (p:Li→Bool) (hp : ∀x∈l,aC Tryz.prog env 69 [(.agg ((aF x).map .p))] [] (sB (p x)) []) :
  aC Tryz.prog env 112 [.p (.ps l.length 3 (l.flatMap aF)),.fn (.func 69) [] []] [] (sI .i64 (eG p l 0)) []:=by
 refine ah names (G8 l.length (l.flatMap aF)) ?_
 refine gV (l:=l) (p:=p) (D:=fun i=>af Tryz.prog env 112 0 [.p (.ps l.length 3 (l.flatMap aF)),.fn (.func 69) [] [],sI .i64 l.length,sI .i64 i] [] 0 19) ?_ ?_ l.length 0 (by omega)
 · intro i x o hx h1 h2
   have hi:i<l.length:=(List.getElem?_eq_some_iff.1 hx).1
   have c:=aM (z:=3) (enc:=aF) (fun _=>rfl) hx
   have c0:(l.flatMap aF).getD (i*3) .bad = .sc (.int .u32 x.mn):=c 0 (by decide)
   have c1:(l.flatMap aF).getD (i*3+1) .bad = .sc (.int .u32 x.mx):=c 1 (by decide)
   have c2:(l.flatMap aF).getD (i*3+1+1) .bad = .sc (.bool x.cap):=c 2 (by decide)
   have w:IntKind.i64.wrap ((i:Int)+1)=((i+1:Nat):Int):=by rw[aD (by omega) (by omega)];rfl
   have hd:decide ((i:Int)<(l.length:Int))=true:=by simp;omega
   refine aa names (B4 l.length i (l.flatMap aF) (p x)) ?_
   simp only[Au,Tree.ok,isStr,isInt,aH,isBool,aN,au,aT,aq,aA,aj,aG,Int.toNat_natCast,c0,c1,c2,hd,w]
   exact⟨fun _=>⟨by first | (simp;done) | (simp;omega),rfl,hp x (List.mem_of_getElem? hx),h1,h2⟩,fun q=>(by cases q)⟩
 · have hd:decide ((l.length:Int)<(l.length:Int))=false:=by simp
   refine aa names (B4 l.length l.length (l.flatMap aF) true) ?_
   simp only[Au,Tree.ok,hd]
   exact⟨fun q=>(by cases q),fun _=>trivial⟩
theorem KW (l:List Li) (hl:l.length≤10000000) (p:Li→Bool) (hp : ∀x∈l,aC Tryz.prog env 69 [(.agg ((aF x).map .p))] [] (sB (p x)) []) :
  aC Tryz.prog env 68 [.p (.ps l.length 3 (l.flatMap aF)),.fn (.func 69) [] []] [] (sB (l.any p)) []:=by
 refine ah names (Kr l.length (l.flatMap aF) (eG p l 0)) ?_
 simp only[Fo,Tree.ok,gu]
 exact⟨KV l hl p hp,trivial⟩
theorem KX (l:List Li) (hl:l.length≤10000000) (p:Li→Bool) (hp : ∀x∈l,aC Tryz.prog env 71 [(.agg ((aF x).map .p))] [] (sB (p x)) []) :
  aC Tryz.prog env 112 [.p (.ps l.length 3 (l.flatMap aF)),.fn (.func 71) [] []] [] (sI .i64 (eG p l 0)) []:=by
 refine ah names (G9 l.length (l.flatMap aF)) ?_
 refine gV (l:=l) (p:=p) (D:=fun i=>af Tryz.prog env 112 0 [.p (.ps l.length 3 (l.flatMap aF)),.fn (.func 71) [] [],sI .i64 l.length,sI .i64 i] [] 0 19) ?_ ?_ l.length 0 (by omega)
 · intro i x o hx h1 h2
   have hi:i<l.length:=(List.getElem?_eq_some_iff.1 hx).1
   have c:=aM (z:=3) (enc:=aF) (fun _=>rfl) hx
   have c0:(l.flatMap aF).getD (i*3) .bad = .sc (.int .u32 x.mn):=c 0 (by decide)
   have c1:(l.flatMap aF).getD (i*3+1) .bad = .sc (.int .u32 x.mx):=c 1 (by decide)
   have c2:(l.flatMap aF).getD (i*3+1+1) .bad = .sc (.bool x.cap):=c 2 (by decide)
   have w:IntKind.i64.wrap ((i:Int)+1)=((i+1:Nat):Int):=by rw[aD (by omega) (by omega)];rfl
   have hd:decide ((i:Int)<(l.length:Int))=true:=by simp;omega
   refine aa names (B5 l.length i (l.flatMap aF) (p x)) ?_
   simp only[Av,Tree.ok,isStr,isInt,aH,isBool,aN,au,aT,aq,aA,aj,aG,Int.toNat_natCast,c0,c1,c2,hd,w]
   exact⟨fun _=>⟨by first | (simp;done) | (simp;omega),rfl,hp x (List.mem_of_getElem? hx),h1,h2⟩,fun q=>(by cases q)⟩
 · have hd:decide ((l.length:Int)<(l.length:Int))=false:=by simp
   refine aa names (B5 l.length l.length (l.flatMap aF) true) ?_
   simp only[Av,Tree.ok,hd]
   exact⟨fun q=>(by cases q),fun _=>trivial⟩
theorem KY (l:List Li) (hl:l.length≤10000000) (p:Li→Bool) (hp : ∀x∈l,aC Tryz.prog env 71 [(.agg ((aF x).map .p))] [] (sB (p x)) []) :
  aC Tryz.prog env 68 [.p (.ps l.length 3 (l.flatMap aF)),.fn (.func 71) [] []] [] (sB (l.any p)) []:=by
 refine ah names (Ks l.length (l.flatMap aF) (eG p l 0)) ?_
 simp only[Fp,Tree.ok,gu]
 exact⟨KX l hl p hp,trivial⟩
theorem KZ (l:List Ex) (hl:l.length≤10000000) (p:Ex→Bool) (hp : ∀x∈l,aC Tryz.prog env 73 [(.agg ((aP x).map .p))] [] (sB (p x)) []) :
  aC Tryz.prog env 25 [.p (.ps l.length 3 (l.flatMap aP)),.fn (.func 73) [] []] [] (sI .i64 (eG p l 0)) []:=by
 refine ah names (He l.length (l.flatMap aP)) ?_
 refine gV (l:=l) (p:=p) (D:=fun i=>af Tryz.prog env 25 0 [.p (.ps l.length 3 (l.flatMap aP)),.fn (.func 73) [] [],sI .i64 l.length,sI .i64 i] [] 0 19) ?_ ?_ l.length 0 (by omega)
 · intro i x o hx h1 h2
   have hi:i<l.length:=(List.getElem?_eq_some_iff.1 hx).1
   have c:=aM (z:=3) (enc:=aP) (fun _=>rfl) hx
   have c0:(l.flatMap aP).getD (i*3) .bad = .sc (.string x.nm):=c 0 (by decide)
   have c1:(l.flatMap aP).getD (i*3+1) .bad = .sc (.int .i64 x.kind):=c 1 (by decide)
   have c2:(l.flatMap aP).getD (i*3+1+1) .bad = .sc (.int .u32 x.ix):=c 2 (by decide)
   have w:IntKind.i64.wrap ((i:Int)+1)=((i+1:Nat):Int):=by rw[aD (by omega) (by omega)];rfl
   have hd:decide ((i:Int)<(l.length:Int))=true:=by simp;omega
   refine aa names (B6 l.length i (l.flatMap aP) (p x)) ?_
   simp only[Aw,Tree.ok,isStr,isInt,aH,isBool,aN,au,aT,aq,aA,aj,aG,Int.toNat_natCast,c0,c1,c2,hd,w]
   exact⟨fun _=>⟨by first | (simp;done) | (simp;omega),rfl,hp x (List.mem_of_getElem? hx),h1,h2⟩,fun q=>(by cases q)⟩
 · have hd:decide ((l.length:Int)<(l.length:Int))=false:=by simp
   refine aa names (B6 l.length l.length (l.flatMap aP) true) ?_
   simp only[Aw,Tree.ok,hd]
   exact⟨fun q=>(by cases q),fun _=>trivial⟩
theorem K0 (l:List Ex) (hl:l.length≤10000000) (p:Ex→Bool) (hp : ∀x∈l,aC Tryz.prog env 73 [(.agg ((aP x).map .p))] [] (sB (p x)) []) :
  aC Tryz.prog env 72 [.p (.ps l.length 3 (l.flatMap aP)),.fn (.func 73) [] []] [] (sB (l.any p)) []:=by
 refine ah names (Kt l.length (l.flatMap aP) (eG p l 0)) ?_
 simp only[Fq,Tree.ok,gu]
 exact⟨KZ l hl p hp,trivial⟩
def Ij (x:Ty):Int:=if 0≤x.p∧x.p≤255∧0≤x.r∧x.r≤1 then 0 else 2
def OA (most:Int) (x:Li):Int:=if x.mn>most∨(x.cap=true∧(x.mx<x.mn∨x.mx>most))∨(x.cap=false∧x.mx≠0) then 2 else 0
theorem K1 (x:Ty):aC Tryz.prog env 60 [.agg ((aZ x).map .p)] [] (sI .i64 (Ij x)) []:=by
 refine ah names (Ku x.p x.r) ?_
 simp only[Ft,Tree.ok,cond_true,cond_false,Bool.and_true]
 refine⟨fun q=> ?_,fun q=> ?_⟩
 · simp only[Bool.not_eq_true',Bool.and_eq_false_iff,beq_eq_false_iff_ne,ne_eq] at q
   rw[Ij,if_neg (by omega)]
 · simp only[Bool.not_eq_false',Bool.and_eq_true,beq_iff_eq] at q
   rw[Ij,if_pos (by omega)]
theorem Ca (x:Li) (most:Int):aC Tryz.prog env 70 [.agg ((aF x).map .p),sI .u32 most] [] (sI .i64 (OA most x)) []:=by
 refine ah names (Kv x.mn x.mx x.cap most) ?_
 obtain⟨mn,mx,cap⟩:=x
 simp only[Fv,Tree.ok,OA]
 cases cap with
 |true=>
  refine⟨fun q=> ?_,fun q=>⟨fun _=>⟨fun r=> ?_,fun r=>⟨fun t=> ?_,fun t=>⟨rfl,?_⟩⟩⟩,fun r=>(by cases r)⟩⟩<;>simp only[decide_eq_true_eq,decide_eq_false_iff_not] at *
  · rw[if_pos (.inl q)]
  · rw[if_pos (.inr (.inl ⟨trivial,.inl r⟩))]
  · rw[if_pos (.inr (.inl ⟨trivial,.inr t⟩))]
  · rw[if_neg (by simp;omega)]
 |false=>
  refine⟨fun q=> ?_,fun q=>⟨fun r=>(by cases r),fun _=>⟨rfl,fun r=> ?_,fun r=> ?_⟩⟩⟩
  · simp only[decide_eq_true_eq] at q
    rw[if_pos (.inl q)]
  · rw[if_pos (.inr (.inr ⟨rfl,by simpa using r⟩))]
  · simp only[decide_eq_false_iff_not] at q
    have r:mx=0:=by simpa using r
    rw[if_neg (by simp[r];omega)]
def xZ (x:El):Bool:=decide ((x.fs.length:Int)>16384)
def x7 (s:ByteArray):Bool:=decide ((s.data.toList.length:Int)>1000)
def rF (x:Ty):Bool:=Ij x != 0
def oP (x:Im):Bool:= !(decide (0≤x.ty)&&decide (x.ty≤2147483647))
def oQ (x:Fu):Bool:= !(decide (0≤x.ty)&&decide (x.ty≤2147483647))||decide (x.lo<0)||decide (x.lo>50000)
def gW (most:Int) (x:Li):Bool:=OA most x != 0
def oS (x:Ex):Bool:=decide (x.kind<0)||decide (x.kind>3)
theorem K2 (x:El):aC Tryz.prog env 53 [.agg ((aJ x).map .p)] [] (sB (xZ x)) []:=ah names (Kw x) rfl
theorem K3 (s:ByteArray):aC Tryz.prog env 57 [.p (.sc (.string s))] [] (sB (x7 s)) []:=ah names (Kx s) rfl
theorem K4 (x:Ty):aC Tryz.prog env 59 [.agg ((aZ x).map .p)] [] (sB (rF x)) []:=ah names (Kz x (Ij x)) ⟨K1 x,rfl⟩
theorem K5 (x:Li):aC Tryz.prog env 69 [.agg ((aF x).map .p)] [] (sB (gW 1048576 x)) []:=ah names (KB x (OA 1048576 x)) ⟨Ca x _,rfl⟩
theorem K6 (x:Li):aC Tryz.prog env 71 [.agg ((aF x).map .p)] [] (sB (gW 65536 x)) []:=ah names (KC x (OA 65536 x)) ⟨Ca x _,rfl⟩
theorem K7 (x:Im):aC Tryz.prog env 62 [.agg ((aQ x).map .p)] [] (sB (oP x)) []:=by
 refine ah names (KA x) ?_
 simp only[Fw,Tree.ok,oP,ge_iff_le]
 exact⟨fun q=>by rw[q,Bool.true_and],fun q=>by rw[q];rfl⟩
theorem K8 (x:Ex):aC Tryz.prog env 73 [.agg ((aP x).map .p)] [] (sB (oS x)) []:=by
 refine ah names (KD x) ?_
 simp only[Fx,Tree.ok,oS]
 exact⟨fun q=>by rw[q];rfl,fun q=>by rw[q,Bool.false_or]⟩
theorem K9 (x:Fu):aC Tryz.prog env 65 [.agg ((aB x).map .p)] [] (sB (oQ x)) []:=by
 refine ah names (KE x) ?_
 simp only[Fy,Tree.ok,oQ,ge_iff_le]
 refine⟨fun q=>⟨fun r=> ?_,fun r=>⟨fun t=> ?_,fun t=> ?_⟩⟩,fun q=> ?_⟩
 · rw[q,Bool.true_and,r];rfl
 · rw[q,Bool.true_and,r,t];rfl
 · rw[q,Bool.true_and,r,t];rfl
 · rw[q];rfl
def kO (M:Mo):List ByteArray:=M.aI.flatMap (fun x=>[x.mo,x.nm])++M.exs.map Ex.nm
def nH (M:Mo):List (List Ins):=M.fns.map Fu.l++M.gls.map Gl.l++M.els.map El.l++M.aW.map Da.l
theorem jL {α β:Type} {f:α→β} {g:β→List PV} : ∀l:List α,(l.map f).flatMap g=l.flatMap fun x=>g (f x)
 |[]=>rfl
 |x::r=>by rw[List.map_cons,List.flatMap_cons,List.flatMap_cons,jL r]
theorem FB : ∀l:List Im,(l.flatMap fun x=>[x.mo,x.nm]).flatMap cS=l.flatMap GL
 |[]=>rfl
 |x::r=>by rw[List.flatMap_cons,List.flatMap_cons,List.flatMap_append,FB r];rfl
theorem Az (M:Mo):JX M=(kO M).flatMap cS:=by
 rw[kO,List.flatMap_append,jL,FB];rfl
theorem FC (M:Mo):Od M=(nH M).flatMap mR:=by
 rw[nH,List.flatMap_append,List.flatMap_append,List.flatMap_append,jL,jL,jL,jL];rfl
theorem AA (M:Mo):(JX M).length=(kO M).length:=by rw[Az,dY (n:=1) (fun _=>rfl),Nat.mul_one]
theorem OB (M:Mo):(Od M).length=(nH M).length:=by rw[FC,dY (n:=1) (fun _=>rfl),Nat.mul_one]
theorem qj {M:Mo} (hM:M.fit):(kO M).length≤10000000:=by
 have h1:=hM.aI;have h2:=hM.exs
 have l1:=dY (f:=GL) (n:=2) (fun _=>rfl) M.aI
 have l2:=dY (f:=Nh) (n:=1) (fun _=>rfl) M.exs
 rw[←AA,JX,List.length_append];omega
theorem D0 {M:Mo} (hM:M.fit):(nH M).length≤10000000:=by
 have h1:=hM.fns;have h2:=hM.gls;have h3:=hM.els;have h4:=hM.aW
 simp only[nH,List.length_append,List.length_map];omega
theorem La (M:Mo) (hM:M.fit):aC Tryz.prog env 56 [.agg (M.aE.map .p)] [] (.p (.ps (kO M).length 1 ((kO M).flatMap cS))) []:=by
 have h:=DS M hM
 rw[AA,Az] at h
 exact h
theorem Lb (M:Mo) (hM:M.fit):aC Tryz.prog env 34 [.agg (M.aE.map .p)] [] (.p (.ps (nH M).length 1 ((nH M).flatMap mR))) []:=by
 have h:=DT M hM
 rw[OB,FC] at h
 exact h
def _root_.Go.Am.Mo.qk (M:Mo):Prop:= ∀l∈nH M,aU l≤100000000000
def fC (M:Mo) (e:Int):Bool:=(nH M).any fun l=>cA iM l==e
theorem OC {l:List (List Ins)} {e:Int} (hl:l.length≤10000000) (hs : ∀x∈l,aU x≤100000000000) : ∀(r i:Nat),i+r=l.length →
  Am.Good Tryz.prog env (af Tryz.prog env 54 0 [sI .i64 e,.p (.ps l.length 1 (l.flatMap mR)),sI .i64 l.length,sI .i64 i] [] 0 20) (.ret (sI .i64 (if(l.drop i).any (fun x=>cA iM x==e)=true then e else 0)) []):=by
 intro r
 induction r with
 |zero=>
  intro i hi
  obtain rfl:i=l.length:=by omega
  have hd:decide ((l.length:Int)<(l.length:Int))=false:=by simp
  refine aa names (B7 e l.length l.length (l.flatMap mR) 0) ?_
  simp only[Ax,Tree.ok,hd,List.drop_length]
  exact⟨fun q=>(by cases q),fun _=>rfl⟩
 |succ r ih=>
  intro i hi
  have nX:i<l.length:=by omega
  have hx:=List.getElem?_eq_getElem nX
  have hm:l[i]∈l:=List.getElem_mem nX
  rw[List.drop_eq_getElem_cons nX,List.any_cons]
  generalize l[i]=x at *
  have c:=aM (z:=1) (enc:=mR) (fun _=>rfl) hx
  have c0:(l.flatMap mR).getD (i*1) .bad=pL x:=c 0 (by decide)
  have w:IntKind.i64.wrap ((i:Int)+1)=((i+1:Nat):Int):=by rw[aD (by omega) (by omega)];rfl
  have hd:decide ((i:Int)<(l.length:Int))=true:=by simp;omega
  refine aa names (B7 e l.length i (l.flatMap mR) (cA iM x)) ?_
  simp only[Ax,Tree.ok,aH,aq,aA,aj,aG,Int.toNat_natCast,c0,hd,w]
  refine⟨fun _=>⟨by first | (simp;done) | (simp;omega),rfl,DE G0 x (hs x hm),fun q=> ?_,fun q=> ?_⟩,fun q=>(by cases q)⟩
  · rw[q,Bool.true_or,if_pos rfl]
  · rw[q,Bool.false_or]
    exact ih (i+1) (by omega)
theorem qX (M:Mo) (hM:M.fit) (hs:M.qk) (e:Int):aC Tryz.prog env 54 [.agg (M.aE.map .p),sI .i64 e] [] (sI .i64 (if fC M e=true then e else 0)) []:=by
 refine ah names (KF M e (nH M).length ((nH M).flatMap mR)) ?_
 exact⟨Lb M hM,OC (D0 hM) hs (nH M).length 0 (by omega)⟩
def lZ:Int→List Da→Int
 |n,[]=>n
 |n,x::r=>lZ (n-min (x.bs.length:Int) (n+1)) r
def eH (M:Mo):Bool:=(kO M).any x7
def Cb (M:Mo):Int:=if lZ 1048576 M.aW<0∨eH M=true then 3 else 0
theorem OD (M:Mo) (hM:M.fit) : ∀(r i:Nat) (n:Int),i+r=M.aW.length → -1≤n→n≤1048576 →
  Am.Good Tryz.prog env (af Tryz.prog env 28 0 [.mp 0 0,sI .i64 n,.p (.ps M.aW.length 2 (M.aW.flatMap aV)),sI .i64 M.aW.length,sI .i64 i] [.pc M.aE] 0 29) (.ret (sI .i64 (if lZ n (M.aW.drop i)<0∨eH M=true then 3 else 0)) []):=by
 intro r
 induction r with
 |zero=>
  intro i n hi h1 h2
  obtain rfl:i=M.aW.length:=by omega
  have hd:decide ((M.aW.length:Int)<(M.aW.length:Int))=false:=by simp
  refine aa names (B8 M M.aW.length M.aW.length n (M.aW.flatMap aV) (kO M).length ((kO M).flatMap cS) (eH M)) ?_
  simp only[Ay,Tree.ok,hd,List.drop_length,lZ]
  refine⟨fun q=>(by cases q),fun _=>⟨fun q=> ?_,fun q=>⟨La M hM,KM (kO M) (qj hM) x7 (fun x _=>K3 x),fun t=> ?_,fun t=> ?_⟩⟩⟩<;>simp only[decide_eq_true_eq,decide_eq_false_iff_not] at q
  · rw[if_pos (.inl q)]
  · rw[if_pos (.inr t)]
  · rw[if_neg (by simp[t];omega)]
 |succ r ih=>
  intro i n hi h1 h2
  have hl:=hM.aW
  have nX:i<M.aW.length:=by omega
  have hx:=List.getElem?_eq_getElem nX
  rw[List.drop_eq_getElem_cons nX]
  generalize M.aW[i]=x at *
  have c:=aM (z:=2) (enc:=aV) (fun _=>rfl) hx
  have c0:(M.aW.flatMap aV).getD (i*2) .bad=pL x.l:=c 0 (by decide)
  have c1:(M.aW.flatMap aV).getD (i*2+1) .bad=pT .u8 x.bs:=c 1 (by decide)
  have w:IntKind.i64.wrap ((i:Int)+1)=((i+1:Nat):Int):=by rw[aD (by omega) (by omega)];rfl
  have w1:IntKind.i64.wrap (n+1)=n+1:=aD (by omega) (by omega)
  have w2:IntKind.i64.wrap (n-min (x.bs.length:Int) (n+1))=n-min (x.bs.length:Int) (n+1):=aD (by omega) (by omega)
  have hd:decide ((i:Int)<(M.aW.length:Int))=true:=by simp;omega
  refine aa names (B8 M M.aW.length i n (M.aW.flatMap aV) 0 [] true) ?_
  simp only[Ay,Tree.ok,aH,aq,aA,aj,aG,Int.toNat_natCast,c0,c1,hd,w,w1,w2,cond_true,lZ]
  exact⟨fun _=>⟨by first | (simp;done) | (simp;omega),rfl,ih (i+1) _ (by omega) (by omega) (by omega)⟩,fun q=>(by cases q)⟩
theorem Hg (M:Mo) (hM:M.fit):aC Tryz.prog env 28 [.agg (M.aE.map .p)] [] (sI .i64 (Cb M)) []:=
 ah names (KG M) (OD M hM M.aW.length 0 1048576 (by omega) (by omega) (by omega))
def eT (M:Mo):Bool:=decide (M.bW.length>1)||decide (M.bX.length>1)||decide (max (max (max (max (max (max (M.tys.length:Int) M.aI.length) M.fns.length) M.gls.length) M.exs.length) M.els.length) M.aW.length>16384)||M.els.any xZ
def x8 (M:Mo):Int:=if eT M=true then 141 else if fC M 141=true then 141 else 0
theorem Hh (M:Mo) (hM:M.fit) (hs:M.qk):aC Tryz.prog env 27 [.agg (M.aE.map .p)] [] (sI .i64 (x8 M)) []:=by
 have hE:=KK M.els (by have:=hM.els;omega) xZ (fun x _=>K2 x)
 refine ah names (KH M (M.els.any xZ) (if fC M 141=true then 141 else 0)) ?_
 have hli:=qX M hM hs 141
 have hF:x8 M=if eT M=true then 141 else if fC M 141=true then 141 else 0:=rfl
 generalize (if fC M 141=true then(141:Int) else 0)=v at hli hF ⊢
 simp only[Fz,Tree.ok,cond_false,cond_true]
 refine⟨fun q=> ?_,fun q=>⟨fun r=> ?_,fun r=>⟨fun t=> ?_,fun t=>⟨hE,fun u=> ?_,fun u=>⟨hli,?_⟩⟩⟩⟩⟩<;>simp only[decide_eq_true_eq,decide_eq_false_iff_not] at *
 · rw[hF,if_pos (by simp only[eT,Bool.or_eq_true,decide_eq_true_eq];omega)]
 · rw[hF,if_pos (by simp only[eT,Bool.or_eq_true,decide_eq_true_eq];omega)]
 · rw[hF,if_pos (by simp only[eT,Bool.or_eq_true,decide_eq_true_eq];omega)]
 · rw[hF,if_pos (by simp[eT,u])]
 · rw[hF,if_neg (by simp only[eT,u,Bool.or_eq_true,decide_eq_true_eq,Bool.or_false];omega)]
end Go.Proofs.YtdmmllcjgjmbbaaGreatDoor.N
end
