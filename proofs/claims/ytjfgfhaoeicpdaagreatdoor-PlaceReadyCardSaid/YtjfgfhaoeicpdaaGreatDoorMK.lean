import Derived.Test.YtjfgfhaoeicpdaaGreatDoorMI
import Derived.Test.YtjfgfhaoeicpdaaGreatDoorMJ
open Nat renaming beq→ae,mul_one→aeX
open Go.Proofs.Tryz renaming prog→ab5
open Go.Fn renaming func→adL
open Go.IntKind renaming i64→rn,u32→abb
open Min renaming min→ad3
open Max renaming max→aeh
open List renaming getElem?_eq_some_iff→di,mem_of_getElem?→mc,map→abG,flatMap_append→aeY,flatMap→aeR,drop_eq_getElem_cons→aeZ,getElem?_eq_getElem→bm,flatMap_cons→aeS,drop_length→ae0,length_append→de,any_cons→ae1
open Bool renaming or_eq_true→ib,true_and→ae2,false_or→xn
open Int renaming toNat_natCast→aep
noncomputable section
section
set_option linter.unusedSimpArgs false
set_option linter.unusedVariables false
namespace Go.Proofs.YtjfgfhaoeicpdaaGreatDoor.N
open Go Go.Am
def agh (k i:Nat) (cs:List PV) (ok:Bool) (f:FuncId) (_:List AV) (m:Mem):Option (AV×Mem):=cond (ae f 68) (some (sB ok,m)) none
def agi (k i:Nat) (cs:List PV) (ok:Bool) (f:FuncId) (_:List AV) (m:Mem):Option (AV×Mem):=cond (ae f 72) (some (sB ok,m)) none
def agj (k i:Nat) (cs:List PV) (ok:Bool) (f:FuncId) (_:List AV) (m:Mem):Option (AV×Mem):=cond (ae f 81) (some (sB ok,m)) none
def agk (k i:Nat) (cs:List PV) (ok:Bool) (f:FuncId) (_:List AV) (m:Mem):Option (AV×Mem):=cond (ae f 74) (some (sB ok,m)) none
def agl (k i:Nat) (cs:List PV) (ok:Bool) (f:FuncId) (_:List AV) (m:Mem):Option (AV×Mem):=cond (ae f 77) (some (sB ok,m)) none
def agm (k i:Nat) (cs:List PV) (ok:Bool) (f:FuncId) (_:List AV) (m:Mem):Option (AV×Mem):=cond (ae f 80) (some (sB ok,m)) none
def agn (k i:Nat) (cs:List PV) (ok:Bool) (f:FuncId) (_:List AV) (m:Mem):Option (AV×Mem):=cond (ae f 84) (some (sB ok,m)) none
def ago (k i:Nat) (cs:List PV) (ok:Bool) (f:FuncId) (_:List AV) (m:Mem):Option (AV×Mem):=cond (ae f 85) (some (sB ok,m)) none
def agp (k i:Nat) (cs:List PV) (ok:Bool) (f:FuncId) (_:List AV) (m:Mem):Option (AV×Mem):=cond (ae f 87) (some (sB ok,m)) none
def agq (k:Nat) (cs:List PV) (r:Int) (f:FuncId) (_:List AV) (m:Mem):Option (AV×Mem):=cond (ae f 97) (some (sI .i64 r,m)) none
def agr (k:Nat) (cs:List PV) (r:Int) (f:FuncId) (_:List AV) (m:Mem):Option (AV×Mem):=cond (ae f 99) (some (sI .i64 r,m)) none
def ags (k:Nat) (cs:List PV) (r:Int) (f:FuncId) (_:List AV) (m:Mem):Option (AV×Mem):=cond (ae f 99) (some (sI .i64 r,m)) none
def agt (k:Nat) (cs:List PV) (r:Int) (f:FuncId) (_:List AV) (m:Mem):Option (AV×Mem):=cond (ae f 100) (some (sI .i64 r,m)) none
def agu (k:Nat) (cs:List PV) (r:Int) (f:FuncId) (_:List AV) (m:Mem):Option (AV×Mem):=cond (ae f 101) (some (sI .i64 r,m)) none
def agv (k:Nat) (cs:List PV) (r:Int) (f:FuncId) (_:List AV) (m:Mem):Option (AV×Mem):=cond (ae f 102) (some (sI .i64 r,m)) none
def agw (k:Nat) (cs:List PV) (r:Int) (f:FuncId) (_:List AV) (m:Mem):Option (AV×Mem):=cond (ae f 104) (some (sI .i64 r,m)) none
def agx (k:Nat) (cs:List PV) (r:Int) (f:FuncId) (_:List AV) (m:Mem):Option (AV×Mem):=cond (ae f 104) (some (sI .i64 r,m)) none
def agy (k:Nat) (cs:List PV) (r:Int) (f:FuncId) (_:List AV) (m:Mem):Option (AV×Mem):=cond (ae f 105) (some (sI .i64 r,m)) none
def agz (s:ByteArray) (r:Int) (f:FuncId) (_:List AV) (m:Mem):Option (AV×Mem):=cond (ae f 82) (some (sI .i64 r,m)) none
def agA (x:Ty) (e:Int) (f:FuncId) (_:List AV) (m:Mem):Option (AV×Mem):=cond (ae f 75) (some (sI .i64 e,m)) none
def acf (x:Li) (e:Int) (f:FuncId) (_:List AV) (m:Mem):Option (AV×Mem):=cond (ae f 64) (some (sI .i64 e,m)) none
def liC (M:Mo) (e:Int) (n:Nat) (cs:List PV) (f:FuncId) (_:List AV) (m:Mem):Option (AV×Mem):=cond (ae f 98) (some (.p (.ps n 1 cs),m)) none
def agB (e:Int) (k i:Nat) (cs:List PV) (r:Int) (f:FuncId) (_:List AV) (m:Mem):Option (AV×Mem):=cond (ae f 63) (some (sI .i64 r,m)) none
def loC (M:Mo) (k i:Nat) (left:Int) (cs:List PV) (n:Nat) (ns:List PV) (lg:Bool) (f:FuncId) (_:List AV) (m:Mem):Option (AV×Mem):=cond (ae f 71) (some (.p (.ps n 1 ns),m)) (cond (ae f 70) (some (sB lg,m)) none)
def maC (M:Mo) (b:Bool) (e:Int) (f:FuncId) (_:List AV) (m:Mem):Option (AV×Mem):=cond (ae f 67) (some (sB b,m)) (cond (ae f 69) (some (sI .i64 e,m)) none)
def mcC (M:Mo) (a b c:Int) (fn:FuncId) (_:List AV) (m:Mem):Option (AV×Mem):=cond (ae fn 30) (some (sI .i64 a,m)) (cond (ae fn 31) (some (sI .i64 b,m)) (cond (ae fn 32) (some (sI .i64 c,m)) none))
def Ts:bD:=aQ aI av [(97,0)] [] []
def XW:Sc:= .fin
def N7 (k:Nat) (cs:List PV):aC:=
 (.at (ak ab5 env 97 0 [.p (.ps k 2 cs),.fn (adL 68) [] [],sI .i64 (↑k:Int),sI .i64 0] ([]) 0 19))
theorem KR (k:Nat) (cs:List PV):aH ab5 env Ts 1000000 97 ([AV.p (PV.ps k 2 cs),AV.fn (adL 68) [] []]) ([]) XW=N7 k cs:=by kernel_rfl
def XX (k:Nat) (i:Nat) (cs:List PV) (ok:Bool):bD:=aQ (agh k i cs ok) av [(97,0)] [(97,0,1),(97,0,2)] [(97,5,3),(97,5,4)]
def acg:Sc:= .fin
def CG (k:Nat) (i:Nat) (cs:List PV) (ok:Bool):aC:=
 (.test (decide ((↑i:Int)<(↑k:Int)))
 (.must (bp (↑i:Int) k&&true&&true)
 (.must (bB (aB cs (aK i*2))&&(bB (aB cs (aK i*2+1))&&true)&&true)
 (.call ⟨68,[.agg [.p (.ps (aD (aB cs (aK i*2))) (bh (aB cs (aK i*2))) (au (aB cs (aK i*2)))),.p (.ps (aD (aB cs (aK i*2+1))) (bh (aB cs (aK i*2+1))) (au (aB cs (aK i*2+1))))]],[],.p (.sc (.bool ok)),[]⟩
 (.test (ok)
 (.out (.ret (sI .i64 (↑i:Int)) []))
 (.at (ak ab5 env 97 0 [.p (.ps k 2 cs),.fn (adL 68) [] [],sI .i64 (↑k:Int),sI .i64 (rn.wrap ((↑i:Int)+1))] ([]) 0 19))))))
 (.out (.ret (sI .i64 (-1)) [])))
theorem Ei (k:Nat) (i:Nat) (cs:List PV) (ok:Bool):grow ab5 env (XX k i cs ok) 1000000 true (ak ab5 env 97 0 ([AV.p (PV.ps k 2 cs),AV.fn (adL 68) [] [],sI rn (↑k:Int),sI rn (↑i:Int)]) ([]) 0 19) acg atEnd=CG k i cs ok:=by kernel_rfl
def Tt:bD:=aQ aI av [(99,0)] [] []
def XY:Sc:= .fin
def N8 (k:Nat) (cs:List PV):aC:=
 (.at (ak ab5 env 99 0 [.p (.ps k 1 cs),.fn (adL 72) [] [],sI .i64 (↑k:Int),sI .i64 0] ([]) 0 19))
theorem KS (k:Nat) (cs:List PV):aH ab5 env Tt 1000000 99 ([AV.p (PV.ps k 1 cs),AV.fn (adL 72) [] []]) ([]) XY=N8 k cs:=by kernel_rfl
def XZ (k:Nat) (i:Nat) (cs:List PV) (ok:Bool):bD:=aQ (agi k i cs ok) av [(99,0)] [(99,0,1),(99,0,2)] [(99,5,3),(99,5,4)]
def ach:Sc:= .fin
def CH (k:Nat) (i:Nat) (cs:List PV) (ok:Bool):aC:=
 (.test (decide ((↑i:Int)<(↑k:Int)))
 (.must (bp (↑i:Int) k&&true&&true)
 (.must (isStr (aB cs (aK i*1))&&true)
 (.call ⟨72,[.p (.sc (.string (bI (aB cs (aK i*1)))))],[],.p (.sc (.bool ok)),[]⟩
 (.test (ok)
 (.out (.ret (sI .i64 (↑i:Int)) []))
 (.at (ak ab5 env 99 0 [.p (.ps k 1 cs),.fn (adL 72) [] [],sI .i64 (↑k:Int),sI .i64 (rn.wrap ((↑i:Int)+1))] ([]) 0 19))))))
 (.out (.ret (sI .i64 (-1)) [])))
theorem Ej (k:Nat) (i:Nat) (cs:List PV) (ok:Bool):grow ab5 env (XZ k i cs ok) 1000000 true (ak ab5 env 99 0 ([AV.p (PV.ps k 1 cs),AV.fn (adL 72) [] [],sI rn (↑k:Int),sI rn (↑i:Int)]) ([]) 0 19) ach atEnd=CH k i cs ok:=by kernel_rfl
def Tu:bD:=aQ aI av [(99,0)] [] []
def X0:Sc:= .fin
def N9 (k:Nat) (cs:List PV):aC:=
 (.at (ak ab5 env 99 0 [.p (.ps k 1 cs),.fn (adL 81) [] [],sI .i64 (↑k:Int),sI .i64 0] ([]) 0 19))
theorem KT (k:Nat) (cs:List PV):aH ab5 env Tu 1000000 99 ([AV.p (PV.ps k 1 cs),AV.fn (adL 81) [] []]) ([]) X0=N9 k cs:=by kernel_rfl
def X1 (k:Nat) (i:Nat) (cs:List PV) (ok:Bool):bD:=aQ (agj k i cs ok) av [(99,0)] [(99,0,1),(99,0,2)] [(99,5,3),(99,5,4)]
def aci:Sc:= .fin
def CJ (k:Nat) (i:Nat) (cs:List PV) (ok:Bool):aC:=
 (.test (decide ((↑i:Int)<(↑k:Int)))
 (.must (bp (↑i:Int) k&&true&&true)
 (.must (isStr (aB cs (aK i*1))&&true)
 (.call ⟨81,[.p (.sc (.string (bI (aB cs (aK i*1)))))],[],.p (.sc (.bool ok)),[]⟩
 (.test (ok)
 (.out (.ret (sI .i64 (↑i:Int)) []))
 (.at (ak ab5 env 99 0 [.p (.ps k 1 cs),.fn (adL 81) [] [],sI .i64 (↑k:Int),sI .i64 (rn.wrap ((↑i:Int)+1))] ([]) 0 19))))))
 (.out (.ret (sI .i64 (-1)) [])))
theorem Ek (k:Nat) (i:Nat) (cs:List PV) (ok:Bool):grow ab5 env (X1 k i cs ok) 1000000 true (ak ab5 env 99 0 ([AV.p (PV.ps k 1 cs),AV.fn (adL 81) [] [],sI rn (↑k:Int),sI rn (↑i:Int)]) ([]) 0 19) aci atEnd=CJ k i cs ok:=by kernel_rfl
def Tv:bD:=aQ aI av [(100,0)] [] []
def X2:Sc:= .fin
def Oa (k:Nat) (cs:List PV):aC:=
 (.at (ak ab5 env 100 0 [.p (.ps k 2 cs),.fn (adL 74) [] [],sI .i64 (↑k:Int),sI .i64 0] ([]) 0 19))
theorem KU (k:Nat) (cs:List PV):aH ab5 env Tv 1000000 100 ([AV.p (PV.ps k 2 cs),AV.fn (adL 74) [] []]) ([]) X2=Oa k cs:=by kernel_rfl
def X3 (k:Nat) (i:Nat) (cs:List PV) (ok:Bool):bD:=aQ (agk k i cs ok) av [(100,0)] [(100,0,1),(100,0,2)] [(100,5,3),(100,5,4)]
def acj:Sc:= .fin
def CK (k:Nat) (i:Nat) (cs:List PV) (ok:Bool):aC:=
 (.test (decide ((↑i:Int)<(↑k:Int)))
 (.must (bp (↑i:Int) k&&true&&true)
 (.must (isInt rn (aB cs (aK i*2))&&(isInt rn (aB cs (aK i*2+1))&&true)&&true)
 (.call ⟨74,[.agg [sI .i64 (az (aB cs (aK i*2))),sI .i64 (az (aB cs (aK i*2+1)))]],[],.p (.sc (.bool ok)),[]⟩
 (.test (ok)
 (.out (.ret (sI .i64 (↑i:Int)) []))
 (.at (ak ab5 env 100 0 [.p (.ps k 2 cs),.fn (adL 74) [] [],sI .i64 (↑k:Int),sI .i64 (rn.wrap ((↑i:Int)+1))] ([]) 0 19))))))
 (.out (.ret (sI .i64 (-1)) [])))
theorem Em (k:Nat) (i:Nat) (cs:List PV) (ok:Bool):grow ab5 env (X3 k i cs ok) 1000000 true (ak ab5 env 100 0 ([AV.p (PV.ps k 2 cs),AV.fn (adL 74) [] [],sI rn (↑k:Int),sI rn (↑i:Int)]) ([]) 0 19) acj atEnd=CK k i cs ok:=by kernel_rfl
def Tw:bD:=aQ aI av [(101,0)] [] []
def X4:Sc:= .fin
def Ob (k:Nat) (cs:List PV):aC:=
 (.at (ak ab5 env 101 0 [.p (.ps k 3 cs),.fn (adL 77) [] [],sI .i64 (↑k:Int),sI .i64 0] ([]) 0 19))
theorem KV (k:Nat) (cs:List PV):aH ab5 env Tw 1000000 101 ([AV.p (PV.ps k 3 cs),AV.fn (adL 77) [] []]) ([]) X4=Ob k cs:=by kernel_rfl
def X5 (k:Nat) (i:Nat) (cs:List PV) (ok:Bool):bD:=aQ (agl k i cs ok) av [(101,0)] [(101,0,1),(101,0,2)] [(101,5,3),(101,5,4)]
def ack:Sc:= .fin
def CM (k:Nat) (i:Nat) (cs:List PV) (ok:Bool):aC:=
 (.test (decide ((↑i:Int)<(↑k:Int)))
 (.must (bp (↑i:Int) k&&true&&true)
 (.must (isStr (aB cs (aK i*3))&&(isStr (aB cs (aK i*3+1))&&(isInt rn (aB cs (aK i*3+1+1))&&true))&&true)
 (.call ⟨77,[.agg [.p (.sc (.string (bI (aB cs (aK i*3))))),.p (.sc (.string (bI (aB cs (aK i*3+1))))),sI .i64 (az (aB cs (aK i*3+1+1)))]],[],.p (.sc (.bool ok)),[]⟩
 (.test (ok)
 (.out (.ret (sI .i64 (↑i:Int)) []))
 (.at (ak ab5 env 101 0 [.p (.ps k 3 cs),.fn (adL 77) [] [],sI .i64 (↑k:Int),sI .i64 (rn.wrap ((↑i:Int)+1))] ([]) 0 19))))))
 (.out (.ret (sI .i64 (-1)) [])))
theorem En (k:Nat) (i:Nat) (cs:List PV) (ok:Bool):grow ab5 env (X5 k i cs ok) 1000000 true (ak ab5 env 101 0 ([AV.p (PV.ps k 3 cs),AV.fn (adL 77) [] [],sI rn (↑k:Int),sI rn (↑i:Int)]) ([]) 0 19) ack atEnd=CM k i cs ok:=by kernel_rfl
def Tx:bD:=aQ aI av [(102,0)] [] []
def X6:Sc:= .fin
def Oc (k:Nat) (cs:List PV):aC:=
 (.at (ak ab5 env 102 0 [.p (.ps k 3 cs),.fn (adL 80) [] [],sI .i64 (↑k:Int),sI .i64 0] ([]) 0 19))
theorem KW (k:Nat) (cs:List PV):aH ab5 env Tx 1000000 102 ([AV.p (PV.ps k 3 cs),AV.fn (adL 80) [] []]) ([]) X6=Oc k cs:=by kernel_rfl
def X7 (k:Nat) (i:Nat) (cs:List PV) (ok:Bool):bD:=aQ (agm k i cs ok) av [(102,0)] [(102,0,1),(102,0,2)] [(102,5,3),(102,5,4)]
def acm:Sc:= .fin
def CN (k:Nat) (i:Nat) (cs:List PV) (ok:Bool):aC:=
 (.test (decide ((↑i:Int)<(↑k:Int)))
 (.must (bp (↑i:Int) k&&true&&true)
 (.must (isInt rn (aB cs (aK i*3))&&(isInt rn (aB cs (aK i*3+1))&&(bB (aB cs (aK i*3+1+1))&&true))&&true)
 (.call ⟨80,[.agg [sI .i64 (az (aB cs (aK i*3))),sI .i64 (az (aB cs (aK i*3+1))),.p (.ps (aD (aB cs (aK i*3+1+1))) (bh (aB cs (aK i*3+1+1))) (au (aB cs (aK i*3+1+1))))]],[],.p (.sc (.bool ok)),[]⟩
 (.test (ok)
 (.out (.ret (sI .i64 (↑i:Int)) []))
 (.at (ak ab5 env 102 0 [.p (.ps k 3 cs),.fn (adL 80) [] [],sI .i64 (↑k:Int),sI .i64 (rn.wrap ((↑i:Int)+1))] ([]) 0 19))))))
 (.out (.ret (sI .i64 (-1)) [])))
theorem Eo (k:Nat) (i:Nat) (cs:List PV) (ok:Bool):grow ab5 env (X7 k i cs ok) 1000000 true (ak ab5 env 102 0 ([AV.p (PV.ps k 3 cs),AV.fn (adL 80) [] [],sI rn (↑k:Int),sI rn (↑i:Int)]) ([]) 0 19) acm atEnd=CN k i cs ok:=by kernel_rfl
def Tz:bD:=aQ aI av [(104,0)] [] []
def X8:Sc:= .fin
def Od (k:Nat) (cs:List PV):aC:=
 (.at (ak ab5 env 104 0 [.p (.ps k 3 cs),.fn (adL 84) [] [],sI .i64 (↑k:Int),sI .i64 0] ([]) 0 19))
theorem KX (k:Nat) (cs:List PV):aH ab5 env Tz 1000000 104 ([AV.p (PV.ps k 3 cs),AV.fn (adL 84) [] []]) ([]) X8=Od k cs:=by kernel_rfl
def X9 (k:Nat) (i:Nat) (cs:List PV) (ok:Bool):bD:=aQ (agn k i cs ok) av [(104,0)] [(104,0,1),(104,0,2)] [(104,5,3),(104,5,4)]
def acn:Sc:= .fin
def CO (k:Nat) (i:Nat) (cs:List PV) (ok:Bool):aC:=
 (.test (decide ((↑i:Int)<(↑k:Int)))
 (.must (bp (↑i:Int) k&&true&&true)
 (.must (isInt abb (aB cs (aK i*3))&&(isInt abb (aB cs (aK i*3+1))&&(isBool (aB cs (aK i*3+1+1))&&true))&&true)
 (.call ⟨84,[.agg [sI .u32 (az (aB cs (aK i*3))),sI .u32 (az (aB cs (aK i*3+1))),.p (.sc (.bool (bu (aB cs (aK i*3+1+1)))))]],[],.p (.sc (.bool ok)),[]⟩
 (.test (ok)
 (.out (.ret (sI .i64 (↑i:Int)) []))
 (.at (ak ab5 env 104 0 [.p (.ps k 3 cs),.fn (adL 84) [] [],sI .i64 (↑k:Int),sI .i64 (rn.wrap ((↑i:Int)+1))] ([]) 0 19))))))
 (.out (.ret (sI .i64 (-1)) [])))
theorem Ep (k:Nat) (i:Nat) (cs:List PV) (ok:Bool):grow ab5 env (X9 k i cs ok) 1000000 true (ak ab5 env 104 0 ([AV.p (PV.ps k 3 cs),AV.fn (adL 84) [] [],sI rn (↑k:Int),sI rn (↑i:Int)]) ([]) 0 19) acn atEnd=CO k i cs ok:=by kernel_rfl
def TA:bD:=aQ aI av [(104,0)] [] []
def Ya:Sc:= .fin
def Oe (k:Nat) (cs:List PV):aC:=
 (.at (ak ab5 env 104 0 [.p (.ps k 3 cs),.fn (adL 85) [] [],sI .i64 (↑k:Int),sI .i64 0] ([]) 0 19))
theorem KY (k:Nat) (cs:List PV):aH ab5 env TA 1000000 104 ([AV.p (PV.ps k 3 cs),AV.fn (adL 85) [] []]) ([]) Ya=Oe k cs:=by kernel_rfl
def Yb (k:Nat) (i:Nat) (cs:List PV) (ok:Bool):bD:=aQ (ago k i cs ok) av [(104,0)] [(104,0,1),(104,0,2)] [(104,5,3),(104,5,4)]
def aco:Sc:= .fin
def CP (k:Nat) (i:Nat) (cs:List PV) (ok:Bool):aC:=
 (.test (decide ((↑i:Int)<(↑k:Int)))
 (.must (bp (↑i:Int) k&&true&&true)
 (.must (isInt abb (aB cs (aK i*3))&&(isInt abb (aB cs (aK i*3+1))&&(isBool (aB cs (aK i*3+1+1))&&true))&&true)
 (.call ⟨85,[.agg [sI .u32 (az (aB cs (aK i*3))),sI .u32 (az (aB cs (aK i*3+1))),.p (.sc (.bool (bu (aB cs (aK i*3+1+1)))))]],[],.p (.sc (.bool ok)),[]⟩
 (.test (ok)
 (.out (.ret (sI .i64 (↑i:Int)) []))
 (.at (ak ab5 env 104 0 [.p (.ps k 3 cs),.fn (adL 85) [] [],sI .i64 (↑k:Int),sI .i64 (rn.wrap ((↑i:Int)+1))] ([]) 0 19))))))
 (.out (.ret (sI .i64 (-1)) [])))
theorem Er (k:Nat) (i:Nat) (cs:List PV) (ok:Bool):grow ab5 env (Yb k i cs ok) 1000000 true (ak ab5 env 104 0 ([AV.p (PV.ps k 3 cs),AV.fn (adL 85) [] [],sI rn (↑k:Int),sI rn (↑i:Int)]) ([]) 0 19) aco atEnd=CP k i cs ok:=by kernel_rfl
def TB:bD:=aQ aI av [(105,0)] [] []
def Yc:Sc:= .fin
def Of (k:Nat) (cs:List PV):aC:=
 (.at (ak ab5 env 105 0 [.p (.ps k 3 cs),.fn (adL 87) [] [],sI .i64 (↑k:Int),sI .i64 0] ([]) 0 19))
theorem KZ (k:Nat) (cs:List PV):aH ab5 env TB 1000000 105 ([AV.p (PV.ps k 3 cs),AV.fn (adL 87) [] []]) ([]) Yc=Of k cs:=by kernel_rfl
def Yd (k:Nat) (i:Nat) (cs:List PV) (ok:Bool):bD:=aQ (agp k i cs ok) av [(105,0)] [(105,0,1),(105,0,2)] [(105,5,3),(105,5,4)]
def acp:Sc:= .fin
def CQ (k:Nat) (i:Nat) (cs:List PV) (ok:Bool):aC:=
 (.test (decide ((↑i:Int)<(↑k:Int)))
 (.must (bp (↑i:Int) k&&true&&true)
 (.must (isStr (aB cs (aK i*3))&&(isInt rn (aB cs (aK i*3+1))&&(isInt abb (aB cs (aK i*3+1+1))&&true))&&true)
 (.call ⟨87,[.agg [.p (.sc (.string (bI (aB cs (aK i*3))))),sI .i64 (az (aB cs (aK i*3+1))),sI .u32 (az (aB cs (aK i*3+1+1)))]],[],.p (.sc (.bool ok)),[]⟩
 (.test (ok)
 (.out (.ret (sI .i64 (↑i:Int)) []))
 (.at (ak ab5 env 105 0 [.p (.ps k 3 cs),.fn (adL 87) [] [],sI .i64 (↑k:Int),sI .i64 (rn.wrap ((↑i:Int)+1))] ([]) 0 19))))))
 (.out (.ret (sI .i64 (-1)) [])))
theorem Es (k:Nat) (i:Nat) (cs:List PV) (ok:Bool):grow ab5 env (Yd k i cs ok) 1000000 true (ak ab5 env 105 0 ([AV.p (PV.ps k 3 cs),AV.fn (adL 87) [] [],sI rn (↑k:Int),sI rn (↑i:Int)]) ([]) 0 19) acp atEnd=CQ k i cs ok:=by kernel_rfl
def Ye (k:Nat) (cs:List PV) (r:Int):bD:=aQ (agq k cs r) av [] [] []
def acq:Sc:= .fin
def ID (k:Nat) (cs:List PV) (r:Int):aC:=
 (.call ⟨97,[.p (.ps k 2 cs),.fn (adL 68) [] []],[],sI .i64 r,[]⟩
 (.out (.ret (.p (.sc (.bool (decide (r≥0))))) [])))
theorem Og (k:Nat) (cs:List PV) (r:Int):aH ab5 env (Ye k cs r) 1000000 67 ([AV.p (PV.ps k 2 cs),AV.fn (adL 68) [] []]) ([]) acq=ID k cs r:=by kernel_rfl
def Yf (k:Nat) (cs:List PV) (r:Int):bD:=aQ (agr k cs r) av [] [] []
def acr:Sc:= .fin
def IE (k:Nat) (cs:List PV) (r:Int):aC:=
 (.call ⟨99,[.p (.ps k 1 cs),.fn (adL 72) [] []],[],sI .i64 r,[]⟩
 (.out (.ret (.p (.sc (.bool (decide (r≥0))))) [])))
theorem Oh (k:Nat) (cs:List PV) (r:Int):aH ab5 env (Yf k cs r) 1000000 70 ([AV.p (PV.ps k 1 cs),AV.fn (adL 72) [] []]) ([]) acr=IE k cs r:=by kernel_rfl
def Yg (k:Nat) (cs:List PV) (r:Int):bD:=aQ (ags k cs r) av [] [] []
def acs:Sc:= .fin
def IF (k:Nat) (cs:List PV) (r:Int):aC:=
 (.call ⟨99,[.p (.ps k 1 cs),.fn (adL 81) [] []],[],sI .i64 r,[]⟩
 (.out (.ret (.p (.sc (.bool (decide (r≥0))))) [])))
theorem Oi (k:Nat) (cs:List PV) (r:Int):aH ab5 env (Yg k cs r) 1000000 70 ([AV.p (PV.ps k 1 cs),AV.fn (adL 81) [] []]) ([]) acs=IF k cs r:=by kernel_rfl
def Yh (k:Nat) (cs:List PV) (r:Int):bD:=aQ (agt k cs r) av [] [] []
def acu:Sc:= .fin
def IG (k:Nat) (cs:List PV) (r:Int):aC:=
 (.call ⟨100,[.p (.ps k 2 cs),.fn (adL 74) [] []],[],sI .i64 r,[]⟩
 (.out (.ret (.p (.sc (.bool (decide (r≥0))))) [])))
theorem Oj (k:Nat) (cs:List PV) (r:Int):aH ab5 env (Yh k cs r) 1000000 73 ([AV.p (PV.ps k 2 cs),AV.fn (adL 74) [] []]) ([]) acu=IG k cs r:=by kernel_rfl
def Yi (k:Nat) (cs:List PV) (r:Int):bD:=aQ (agu k cs r) av [] [] []
def acv:Sc:= .fin
def II (k:Nat) (cs:List PV) (r:Int):aC:=
 (.call ⟨101,[.p (.ps k 3 cs),.fn (adL 77) [] []],[],sI .i64 r,[]⟩
 (.out (.ret (.p (.sc (.bool (decide (r≥0))))) [])))
theorem Ol (k:Nat) (cs:List PV) (r:Int):aH ab5 env (Yi k cs r) 1000000 76 ([AV.p (PV.ps k 3 cs),AV.fn (adL 77) [] []]) ([]) acv=II k cs r:=by kernel_rfl
def Yj (k:Nat) (cs:List PV) (r:Int):bD:=aQ (agv k cs r) av [] [] []
def acw:Sc:= .fin
def IJ (k:Nat) (cs:List PV) (r:Int):aC:=
 (.call ⟨102,[.p (.ps k 3 cs),.fn (adL 80) [] []],[],sI .i64 r,[]⟩
 (.out (.ret (.p (.sc (.bool (decide (r≥0))))) [])))
theorem Om (k:Nat) (cs:List PV) (r:Int):aH ab5 env (Yj k cs r) 1000000 79 ([AV.p (PV.ps k 3 cs),AV.fn (adL 80) [] []]) ([]) acw=IJ k cs r:=by kernel_rfl
def Yk (k:Nat) (cs:List PV) (r:Int):bD:=aQ (agw k cs r) av [] [] []
def acy:Sc:= .fin
def IK (k:Nat) (cs:List PV) (r:Int):aC:=
 (.call ⟨104,[.p (.ps k 3 cs),.fn (adL 84) [] []],[],sI .i64 r,[]⟩
 (.out (.ret (.p (.sc (.bool (decide (r≥0))))) [])))
theorem On (k:Nat) (cs:List PV) (r:Int):aH ab5 env (Yk k cs r) 1000000 83 ([AV.p (PV.ps k 3 cs),AV.fn (adL 84) [] []]) ([]) acy=IK k cs r:=by kernel_rfl
def Yl (k:Nat) (cs:List PV) (r:Int):bD:=aQ (agx k cs r) av [] [] []
def acz:Sc:= .fin
def IL (k:Nat) (cs:List PV) (r:Int):aC:=
 (.call ⟨104,[.p (.ps k 3 cs),.fn (adL 85) [] []],[],sI .i64 r,[]⟩
 (.out (.ret (.p (.sc (.bool (decide (r≥0))))) [])))
theorem Oo (k:Nat) (cs:List PV) (r:Int):aH ab5 env (Yl k cs r) 1000000 83 ([AV.p (PV.ps k 3 cs),AV.fn (adL 85) [] []]) ([]) acz=IL k cs r:=by kernel_rfl
def Ym (k:Nat) (cs:List PV) (r:Int):bD:=aQ (agy k cs r) av [] [] []
def acA:Sc:= .fin
def IM (k:Nat) (cs:List PV) (r:Int):aC:=
 (.call ⟨105,[.p (.ps k 3 cs),.fn (adL 87) [] []],[],sI .i64 r,[]⟩
 (.out (.ret (.p (.sc (.bool (decide (r≥0))))) [])))
theorem Oq (k:Nat) (cs:List PV) (r:Int):aH ab5 env (Ym k cs r) 1000000 86 ([AV.p (PV.ps k 3 cs),AV.fn (adL 87) [] []]) ([]) acA=IM k cs r:=by kernel_rfl
def Yn:bD:=aQ aI av [] [(75,0,0)] []
def acB:Sc:= .fin
def IN (p r:Int):aC:=
 (.test (!(fun r=>(p==bif true then ad3 (bif false then ad3 p 0 else aeh p 0) 255 else aeh (bif false then ad3 p 0 else aeh p 0) 255)&&r) ((fun r_1=>(r==bif true then ad3 (bif false then ad3 r 0 else aeh r 0) 1 else aeh (bif false then ad3 r 0 else aeh r 0) 1)&&r_1) true))
 (.out (.ret (sI .i64 2) []))
 (.out (.ret (sI .i64 0) [])))
theorem Ot (p r:Int):aH ab5 env Yn 1000000 75 ([AV.agg [sI rn p,sI rn r]]) ([]) acB=IN p r:=by kernel_rfl
def Yo:bD:=aQ aI av [] [(64,2,5),(64,2,8),(64,2,14),(64,2,22),(64,2,26),(64,0,0)] []
def acC:Sc:=(.fork (.lit (.lit .fin)) (.fork (.fork (.lit (.lit .fin)) (.fork (.lit .fin) (.no (.lit .fin)))) (.lit (.yes .fin))))
def IP (mn mx:Int) (cap:Bool) (most:Int):aC:=
 (.test (decide (mn>most))
 (.out (.ret (sI .i64 2) []))
 (.test (cap)
 (.test (decide (mx<mn))
 (.out (.ret (sI .i64 2) []))
 (.test (decide (mx>most))
 (.out (.ret (sI .i64 2) []))
 (.must (!(!cap))
 (.out (.ret (sI .i64 0) [])))))
 (.must (!cap)
 (.test (mx != 0)
 (.out (.ret (sI .i64 2) []))
 (.out (.ret (sI .i64 0) []))))))
theorem Ou (mn mx:Int) (cap:Bool) (most:Int):aH ab5 env Yo 1000000 64 ([AV.agg [sI abb mn,sI abb mx,sB cap],sI abb most]) ([]) acC=IP mn mx cap most:=by kernel_rfl
def Yp:bD:=aQ aI av [] [] []
def acD:Sc:= .fin
def TC (x:El):aC:=
 (.out (.ret (.p (.sc (.bool (decide ((↑x.fs.length:Int)>16384))))) []))
theorem Ov (x:El):aH ab5 env Yp 1000000 68 ([AV.agg (abG AV.p (aX x))]) ([]) acD=TC x:=by kernel_rfl
def Yq:bD:=aQ aI av [] [] []
def acE:Sc:= .fin
def TD (s:ByteArray):aC:=
 (.out (.ret (.p (.sc (.bool (decide ((↑s.data.toList.length:Int)>1000))))) []))
theorem Ow (s:ByteArray):aH ab5 env Yq 1000000 72 ([AV.p (PV.sc (Value.string s))]) ([]) acE=TD s:=by kernel_rfl
def Yr (s:ByteArray) (r:Int):bD:=aQ (agz s r) av [] [] []
def acF:Sc:= .fin
def TE (s:ByteArray) (r:Int):aC:=
 (.call ⟨82,[.os (some 0) s.data.toList.length 1 (abG lR s.data.toList)],[.tok],sI .i64 r,[.tok]⟩
 (.out (.ret (.p (.sc (.bool (decide (r≥0))))) [])))
theorem Ox (s:ByteArray) (r:Int):aH ab5 env (Yr s r) 1000000 81 ([AV.p (PV.sc (Value.string s))]) ([]) acF=TE s r:=by kernel_rfl
def Ys (x:Ty) (e:Int):bD:=aQ (agA x e) av [] [] []
def acG:Sc:= .fin
def TF (x:Ty) (e:Int):aC:=
 (.call ⟨75,[.agg [sI .i64 x.p,sI .i64 x.r]],[],sI .i64 e,[]⟩
 (.out (.ret (.p (.sc (.bool (e != 0)))) [])))
theorem Oy (x:Ty) (e:Int):aH ab5 env (Ys x e) 1000000 74 ([AV.agg (abG AV.p (bW x))]) ([]) acG=TF x e:=by kernel_rfl
def Yt:bD:=aQ aI av [] [(78,2,3)] []
def acH:Sc:= .fin
def IQ (x:Im):aC:=
 (.test (decide (x.ty≥0))
 (.out (.ret (.p (.sc (.bool !decide (x.ty≤2147483647)))) []))
 oO)
theorem Oz (x:Im):aH ab5 env Yt 1000000 77 ([AV.agg (abG AV.p (bQ x))]) ([]) acH=IQ x:=by kernel_rfl
def Yu (x:Li) (e:Int):bD:=aQ (acf x e) av [] [] []
def acI:Sc:= .fin
def TG (x:Li) (e:Int):aC:=
 (.call ⟨64,[.agg [sI .u32 x.mn,sI .u32 x.mx,.p (.sc (.bool x.cap))],sI .u32 1048576],[],sI .i64 e,[]⟩
 (.out (.ret (.p (.sc (.bool (e != 0)))) [])))
theorem OA (x:Li) (e:Int):aH ab5 env (Yu x e) 1000000 84 ([AV.agg (abG AV.p (aN x))]) ([]) acI=TG x e:=by kernel_rfl
def Yv (x:Li) (e:Int):bD:=aQ (acf x e) av [] [] []
def acJ:Sc:= .fin
def TH (x:Li) (e:Int):aC:=
 (.call ⟨64,[.agg [sI .u32 x.mn,sI .u32 x.mx,.p (.sc (.bool x.cap))],sI .u32 65536],[],sI .i64 e,[]⟩
 (.out (.ret (.p (.sc (.bool (e != 0)))) [])))
theorem OB (x:Li) (e:Int):aH ab5 env (Yv x e) 1000000 85 ([AV.agg (abG AV.p (aN x))]) ([]) acJ=TH x e:=by kernel_rfl
def Yw:bD:=aQ aI av [] [(87,2,4)] []
def acK:Sc:= .fin
def IS (x:Ex):aC:=
 (.test (decide (x.kind<0))
 oO
 (.out (.ret (.p (.sc (.bool (decide (x.kind>3))))) [])))
theorem OC (x:Ex):aH ab5 env Yw 1000000 87 ([AV.agg (abG AV.p (aW x))]) ([]) acK=IS x:=by kernel_rfl
def Yx:bD:=aQ aI av [] [(78,2,3),(80,2,5),(80,2,11)] []
def acL:Sc:=(.fork (.fork (.lit .fin) .fin) (.lit (.lit .fin)))
def IT (x:Fu):aC:=
 (.test (decide (x.ty≥0))
 (.test (!decide (x.ty≤2147483647))
 oO
 (.test (decide (x.lo<0))
 oO
 (.out (.ret (.p (.sc (.bool (decide (x.lo>50000))))) []))))
 oO)
theorem OD (x:Fu):aH ab5 env Yx 1000000 80 ([AV.agg (abG AV.p (aV x))]) ([]) acL=IT x:=by kernel_rfl
def Yy (M:Mo) (e:Int) (n:Nat) (cs:List PV):bD:=aQ (liC M e n cs) av [(69,0)] [] []
def acM:Sc:= .fin
def TI (M:Mo) (e:Int) (n:Nat) (cs:List PV):aC:=
 (.call ⟨98,[.agg (abG AV.p M.aJ)],[],.p (.ps n 1 cs),[]⟩
 (.at (ak ab5 env 69 0 [sI .i64 e,.p (.ps n 1 cs),sI .i64 (↑n:Int),sI .i64 0] ([]) 0 20)))
theorem OE (M:Mo) (e:Int) (n:Nat) (cs:List PV):aH ab5 env (Yy M e n cs) 1000000 69 ([AV.agg (abG AV.p M.aJ),sI rn e]) ([]) acM=TI M e n cs:=by kernel_rfl
def Yz (e:Int) (k:Nat) (i:Nat) (cs:List PV) (r:Int):bD:=aQ (agB e k i cs r) av [(69,0)] [(69,0,1),(69,0,2)] [(69,4,0),(69,4,1)]
def acN:Sc:= .fin
def CR (e:Int) (k:Nat) (i:Nat) (cs:List PV) (r:Int):aC:=
 (.test (decide ((↑i:Int)<(↑k:Int)))
 (.must (bp (↑i:Int) k&&true&&true)
 (.must (bB (aB cs (aK i*1))&&true)
 (.call ⟨63,[.p (.ps (aD (aB cs (aK i*1))) (bh (aB cs (aK i*1))) (au (aB cs (aK i*1))))],[],sI .i64 r,[]⟩
 (.test (r==e)
 (.out (.ret (sI .i64 e) []))
 (.at (ak ab5 env 69 0 [sI .i64 e,.p (.ps k 1 cs),sI .i64 (↑k:Int),sI .i64 (rn.wrap ((↑i:Int)+1))] ([]) 0 20))))))
 (.out (.ret (sI .i64 0) [])))
theorem Et (e:Int) (k:Nat) (i:Nat) (cs:List PV) (r:Int):grow ab5 env (Yz e k i cs r) 1000000 true (ak ab5 env 69 0 ([sI rn e,AV.p (PV.ps k 1 cs),sI rn (↑k:Int),sI rn (↑i:Int)]) ([]) 0 20) acN atEnd=CR e k i cs r:=by kernel_rfl
def YA:bD:=aQ aI av [(31,0)] [] []
def acO:Sc:= .fin
def TJ (M:Mo):aC:=
 (.at (ak ab5 env 31 0 [.mp 0 0,sI .i64 1048576,.p (.ps M.bt.length 2 (aeR bg M.bt)),sI .i64 (↑M.bt.length:Int),sI .i64 0] ([.pc M.aJ]) 0 29))
theorem OF (M:Mo):aH ab5 env YA 1000000 31 ([AV.agg (abG AV.p M.aJ)]) ([]) acO=TJ M:=by kernel_rfl
def YB (M:Mo) (k:Nat) (i:Nat) (left:Int) (cs:List PV) (n:Nat) (ns:List PV) (lg:Bool):bD:=aQ (loC M k i left cs n ns lg) av [(31,0)] [(31,0,1),(31,8,3),(31,0,2)] [(31,5,0),(31,5,1)]
def acP:Sc:=(.fork .fin (.fork (.lit .fin) .fin))
def CS (M:Mo) (k:Nat) (i:Nat) (left:Int) (cs:List PV) (n:Nat) (ns:List PV) (lg:Bool):aC:=
 (.test (decide ((↑i:Int)<(↑k:Int)))
 (.must (bp (↑i:Int) k&&true&&true)
 (.must (bB (aB cs (aK i*2))&&(bB (aB cs (aK i*2+1))&&true)&&true)
 (.at (ak ab5 env 31 0 [.mp 0 0,sI .i64 (rn.wrap (left-bif true then ad3 (↑(aD (aB cs (aK i*2+1))):Int) (rn.wrap (left+1)) else aeh (↑(aD (aB cs (aK i*2+1))):Int) (rn.wrap (left+1)))),.p (.ps k 2 cs),sI .i64 (↑k:Int),sI .i64 (rn.wrap ((↑i:Int)+1))] ([.pc M.aJ]) 0 29))))
 (.test (decide (left<0))
 (.out (.ret (sI .i64 3) []))
 (.call ⟨71,[.agg (abG AV.p M.aJ)],[],.p (.ps n 1 ns),[]⟩
 (.call ⟨70,[.p (.ps n 1 ns),.fn (adL 72) [] []],[],.p (.sc (.bool lg)),[]⟩
 (.test (lg)
 (.out (.ret (sI .i64 3) []))
 (.out (.ret (sI .i64 0) [])))))))
theorem Eu (M:Mo) (k:Nat) (i:Nat) (left:Int) (cs:List PV) (n:Nat) (ns:List PV) (lg:Bool):grow ab5 env (YB M k i left cs n ns lg) 1000000 true (ak ab5 env 31 0 ([AV.mp 0 0,sI rn left,AV.p (PV.ps k 2 cs),sI rn (↑k:Int),sI rn (↑i:Int)]) ([aU.pc M.aJ]) 0 29) acP atEnd=CS M k i left cs n ns lg:=by kernel_rfl
def YC (M:Mo) (b:Bool) (e:Int):bD:=aQ (maC M b e) av [] [(30,3,5),(30,3,11),(30,3,15),(30,0,0)] []
def acQ:Sc:=(.fork (.lit (.lit (.lit .fin))) (.fork (.lit (.lit .fin)) (.fork (.lit .fin) .fin)))
def IU (M:Mo) (b:Bool) (e:Int):aC:=
 (.test (decide ((↑M.cj.length:Int)>1))
 (.out (.ret (sI .i64 141) []))
 (.test (decide ((↑M.cM.length:Int)>1))
 (.out (.ret (sI .i64 141) []))
 (.test (decide ((bif false then ad3 (bif false then ad3 (bif false then ad3 (bif false then ad3 (bif false then ad3 (bif false then ad3 (↑M.tys.length:Int) (↑M.aZ.length:Int) else aeh (↑M.tys.length:Int) (↑M.aZ.length:Int)) (↑M.fns.length:Int) else aeh (bif false then ad3 (↑M.tys.length:Int) (↑M.aZ.length:Int) else aeh (↑M.tys.length:Int) (↑M.aZ.length:Int)) (↑M.fns.length:Int)) (↑M.gls.length:Int) else aeh (bif false then ad3 (bif false then ad3 (↑M.tys.length:Int) (↑M.aZ.length:Int) else aeh (↑M.tys.length:Int) (↑M.aZ.length:Int)) (↑M.fns.length:Int) else aeh (bif false then ad3 (↑M.tys.length:Int) (↑M.aZ.length:Int) else aeh (↑M.tys.length:Int) (↑M.aZ.length:Int)) (↑M.fns.length:Int)) (↑M.gls.length:Int)) (↑M.exs.length:Int) else aeh (bif false then ad3 (bif false then ad3 (bif false then ad3 (↑M.tys.length:Int) (↑M.aZ.length:Int) else aeh (↑M.tys.length:Int) (↑M.aZ.length:Int)) (↑M.fns.length:Int) else aeh (bif false then ad3 (↑M.tys.length:Int) (↑M.aZ.length:Int) else aeh (↑M.tys.length:Int) (↑M.aZ.length:Int)) (↑M.fns.length:Int)) (↑M.gls.length:Int) else aeh (bif false then ad3 (bif false then ad3 (↑M.tys.length:Int) (↑M.aZ.length:Int) else aeh (↑M.tys.length:Int) (↑M.aZ.length:Int)) (↑M.fns.length:Int) else aeh (bif false then ad3 (↑M.tys.length:Int) (↑M.aZ.length:Int) else aeh (↑M.tys.length:Int) (↑M.aZ.length:Int)) (↑M.fns.length:Int)) (↑M.gls.length:Int)) (↑M.exs.length:Int)) (↑M.els.length:Int) else aeh (bif false then ad3 (bif false then ad3 (bif false then ad3 (bif false then ad3 (↑M.tys.length:Int) (↑M.aZ.length:Int) else aeh (↑M.tys.length:Int) (↑M.aZ.length:Int)) (↑M.fns.length:Int) else aeh (bif false then ad3 (↑M.tys.length:Int) (↑M.aZ.length:Int) else aeh (↑M.tys.length:Int) (↑M.aZ.length:Int)) (↑M.fns.length:Int)) (↑M.gls.length:Int) else aeh (bif false then ad3 (bif false then ad3 (↑M.tys.length:Int) (↑M.aZ.length:Int) else aeh (↑M.tys.length:Int) (↑M.aZ.length:Int)) (↑M.fns.length:Int) else aeh (bif false then ad3 (↑M.tys.length:Int) (↑M.aZ.length:Int) else aeh (↑M.tys.length:Int) (↑M.aZ.length:Int)) (↑M.fns.length:Int)) (↑M.gls.length:Int)) (↑M.exs.length:Int) else aeh (bif false then ad3 (bif false then ad3 (bif false then ad3 (↑M.tys.length:Int) (↑M.aZ.length:Int) else aeh (↑M.tys.length:Int) (↑M.aZ.length:Int)) (↑M.fns.length:Int) else aeh (bif false then ad3 (↑M.tys.length:Int) (↑M.aZ.length:Int) else aeh (↑M.tys.length:Int) (↑M.aZ.length:Int)) (↑M.fns.length:Int)) (↑M.gls.length:Int) else aeh (bif false then ad3 (bif false then ad3 (↑M.tys.length:Int) (↑M.aZ.length:Int) else aeh (↑M.tys.length:Int) (↑M.aZ.length:Int)) (↑M.fns.length:Int) else aeh (bif false then ad3 (↑M.tys.length:Int) (↑M.aZ.length:Int) else aeh (↑M.tys.length:Int) (↑M.aZ.length:Int)) (↑M.fns.length:Int)) (↑M.gls.length:Int)) (↑M.exs.length:Int)) (↑M.els.length:Int)) (↑M.bt.length:Int) else aeh (bif false then ad3 (bif false then ad3 (bif false then ad3 (bif false then ad3 (bif false then ad3 (↑M.tys.length:Int) (↑M.aZ.length:Int) else aeh (↑M.tys.length:Int) (↑M.aZ.length:Int)) (↑M.fns.length:Int) else aeh (bif false then ad3 (↑M.tys.length:Int) (↑M.aZ.length:Int) else aeh (↑M.tys.length:Int) (↑M.aZ.length:Int)) (↑M.fns.length:Int)) (↑M.gls.length:Int) else aeh (bif false then ad3 (bif false then ad3 (↑M.tys.length:Int) (↑M.aZ.length:Int) else aeh (↑M.tys.length:Int) (↑M.aZ.length:Int)) (↑M.fns.length:Int) else aeh (bif false then ad3 (↑M.tys.length:Int) (↑M.aZ.length:Int) else aeh (↑M.tys.length:Int) (↑M.aZ.length:Int)) (↑M.fns.length:Int)) (↑M.gls.length:Int)) (↑M.exs.length:Int) else aeh (bif false then ad3 (bif false then ad3 (bif false then ad3 (↑M.tys.length:Int) (↑M.aZ.length:Int) else aeh (↑M.tys.length:Int) (↑M.aZ.length:Int)) (↑M.fns.length:Int) else aeh (bif false then ad3 (↑M.tys.length:Int) (↑M.aZ.length:Int) else aeh (↑M.tys.length:Int) (↑M.aZ.length:Int)) (↑M.fns.length:Int)) (↑M.gls.length:Int) else aeh (bif false then ad3 (bif false then ad3 (↑M.tys.length:Int) (↑M.aZ.length:Int) else aeh (↑M.tys.length:Int) (↑M.aZ.length:Int)) (↑M.fns.length:Int) else aeh (bif false then ad3 (↑M.tys.length:Int) (↑M.aZ.length:Int) else aeh (↑M.tys.length:Int) (↑M.aZ.length:Int)) (↑M.fns.length:Int)) (↑M.gls.length:Int)) (↑M.exs.length:Int)) (↑M.els.length:Int) else aeh (bif false then ad3 (bif false then ad3 (bif false then ad3 (bif false then ad3 (↑M.tys.length:Int) (↑M.aZ.length:Int) else aeh (↑M.tys.length:Int) (↑M.aZ.length:Int)) (↑M.fns.length:Int) else aeh (bif false then ad3 (↑M.tys.length:Int) (↑M.aZ.length:Int) else aeh (↑M.tys.length:Int) (↑M.aZ.length:Int)) (↑M.fns.length:Int)) (↑M.gls.length:Int) else aeh (bif false then ad3 (bif false then ad3 (↑M.tys.length:Int) (↑M.aZ.length:Int) else aeh (↑M.tys.length:Int) (↑M.aZ.length:Int)) (↑M.fns.length:Int) else aeh (bif false then ad3 (↑M.tys.length:Int) (↑M.aZ.length:Int) else aeh (↑M.tys.length:Int) (↑M.aZ.length:Int)) (↑M.fns.length:Int)) (↑M.gls.length:Int)) (↑M.exs.length:Int) else aeh (bif false then ad3 (bif false then ad3 (bif false then ad3 (↑M.tys.length:Int) (↑M.aZ.length:Int) else aeh (↑M.tys.length:Int) (↑M.aZ.length:Int)) (↑M.fns.length:Int) else aeh (bif false then ad3 (↑M.tys.length:Int) (↑M.aZ.length:Int) else aeh (↑M.tys.length:Int) (↑M.aZ.length:Int)) (↑M.fns.length:Int)) (↑M.gls.length:Int) else aeh (bif false then ad3 (bif false then ad3 (↑M.tys.length:Int) (↑M.aZ.length:Int) else aeh (↑M.tys.length:Int) (↑M.aZ.length:Int)) (↑M.fns.length:Int) else aeh (bif false then ad3 (↑M.tys.length:Int) (↑M.aZ.length:Int) else aeh (↑M.tys.length:Int) (↑M.aZ.length:Int)) (↑M.fns.length:Int)) (↑M.gls.length:Int)) (↑M.exs.length:Int)) (↑M.els.length:Int)) (↑M.bt.length:Int))>16384))
 (.out (.ret (sI .i64 141) []))
 (.call ⟨67,[.p (.ps M.els.length 2 (aeR aX M.els)),.fn (adL 68) [] []],[],.p (.sc (.bool b)),[]⟩
 (.test (b)
 (.out (.ret (sI .i64 141) []))
 (.call ⟨69,[.agg (abG AV.p M.aJ),sI .i64 141],[],sI .i64 e,[]⟩
 (.out (.ret (sI .i64 e) []))))))))
theorem OG (M:Mo) (b:Bool) (e:Int):aH ab5 env (YC M b e) 1000000 30 ([AV.agg (abG AV.p M.aJ)]) ([]) acQ=IU M b e:=by kernel_rfl
def YD:bD:=aQ aI av [] [(32,3,2),(32,4,2),(32,5,2),(32,6,2),(32,7,2),(32,8,2),(32,9,2),(32,9,6),(32,0,0)] []
def acR (M:Mo) (a:Bool) (b:Bool) (c:Bool) (d:Bool) (e:Bool) (f:Bool) (g:Bool) (n:Nat) (ns:List PV) (r:Int):Sc:=(.ans 73 (.p (.sc (.bool a))) ([]) (.fork (.lit (.lit (.lit (.lit (.lit (.lit (.lit .fin))))))) (.ans 76 (.p (.sc (.bool b))) ([]) (.fork (.lit (.lit (.lit (.lit (.lit (.lit .fin)))))) (.ans 79 (.p (.sc (.bool c))) ([]) (.fork (.lit (.lit (.lit (.lit (.lit .fin))))) (.ans 71 (.p (.ps n 1 ns)) ([]) (.ans 70 (.p (.sc (.bool d))) ([]) (.fork (.lit (.lit (.lit (.lit .fin)))) (.ans 83 (.p (.sc (.bool e))) ([]) (.fork (.lit (.lit (.lit .fin))) (.ans 83 (.p (.sc (.bool f))) ([]) (.fork (.lit (.lit .fin)) (.ans 86 (.p (.sc (.bool g))) ([]) (.fork (.lit .fin) (.fork (.fork .fin (.ans 69 (sI .i64 r) ([]) .fin)) (.lit (.ans 69 (sI .i64 r) ([]) .fin))))))))))))))))))
def fM:aC:=
 (.out (.ret (sI .i64 2) []))
def IV (M:Mo) (a:Bool) (b:Bool) (c:Bool) (d:Bool) (e:Bool) (f:Bool) (g:Bool) (n:Nat) (ns:List PV) (r:Int):aC:=
 (.call ⟨73,[.p (.ps M.tys.length 2 (aeR bW M.tys)),.fn (adL 74) [] []],[],.p (.sc (.bool a)),[]⟩
 (.test (a)
 (fM)
 (.call ⟨76,[.p (.ps M.aZ.length 3 (aeR bQ M.aZ)),.fn (adL 77) [] []],[],.p (.sc (.bool b)),[]⟩
 (.test (b)
 (fM)
 (.call ⟨79,[.p (.ps M.fns.length 3 (aeR aV M.fns)),.fn (adL 80) [] []],[],.p (.sc (.bool c)),[]⟩
 (.test (c)
 (fM)
 (.call ⟨71,[.agg (abG AV.p M.aJ)],[],.p (.ps n 1 ns),[]⟩
 (.call ⟨70,[.p (.ps n 1 ns),.fn (adL 81) [] []],[],.p (.sc (.bool d)),[]⟩
 (.test (d)
 (fM)
 (.call ⟨83,[.p (.ps M.cj.length 3 (aeR aN M.cj)),.fn (adL 84) [] []],[],.p (.sc (.bool e)),[]⟩
 (.test (e)
 (fM)
 (.call ⟨83,[.p (.ps M.cM.length 3 (aeR aN M.cM)),.fn (adL 85) [] []],[],.p (.sc (.bool f)),[]⟩
 (.test (f)
 (fM)
 (.call ⟨86,[.p (.ps M.exs.length 3 (aeR aW M.exs)),.fn (adL 87) [] []],[],.p (.sc (.bool g)),[]⟩
 (.test (g)
 (fM)
 (.test (!M.st)
 (.test (M.sn != 0)
 (fM)
 (.call ⟨69,[.agg (abG AV.p M.aJ),sI .i64 2],[],sI .i64 r,[]⟩
 (.out (.ret (sI .i64 r) []))))
 (.call ⟨69,[.agg (abG AV.p M.aJ),sI .i64 2],[],sI .i64 r,[]⟩
 (.out (.ret (sI .i64 r) [])))))))))))))))))))
theorem OH (M:Mo) (a:Bool) (b:Bool) (c:Bool) (d:Bool) (e:Bool) (f:Bool) (g:Bool) (n:Nat) (ns:List PV) (r:Int):aH ab5 env YD 1000000 32 ([AV.agg (abG AV.p M.aJ)]) ([]) (acR M a b c d e f g n ns r)=IV M a b c d e f g n ns r:=by kernel_rfl
def TK (M:Mo) (a b c:Int):bD:=aQ (mcC M a b c) av [] [(18,0,2)] []
def YE:Sc:= .fin
def Ew (M:Mo) (a b c:Int):aC:=
 (.call ⟨30,[.agg (abG AV.p M.aJ)],[],sI .i64 a,[]⟩
 (.test (a != 0)
 (.out (.ret (sI .i64 a) []))
 (.call ⟨31,[.agg (abG AV.p M.aJ)],[],sI .i64 b,[]⟩
 (.test (b != 0)
 (.out (.ret (sI .i64 b) []))
 (.call ⟨32,[.agg (abG AV.p M.aJ)],[],sI .i64 c,[]⟩
 (.test (c != 0)
 (.out (.ret (sI .i64 c) []))
 (.out (.ret (sI .i64 0) []))))))))
theorem K0 (M:Mo) (a b c:Int):aH ab5 env (TK M a b c) 1000000 18 ([AV.agg (abG AV.p M.aJ)]) ([]) YE=Ew M a b c:=by kernel_rfl
def je {α:Type} (p:α→Bool):List α→Nat→Int
 |[],_=> -1
 |x::r,i=>if p x=true then i else je p r (i+1)
theorem iJ {α:Type} (p:α→Bool) : ∀(l:List α) (i:Nat),decide (je p l i≥0)=l.any p
 |[],_=>rfl
 |x::r,i=>by
  cases h:p x with
  |true=>simp[je,h]
  |false=>simp only[je,h,ae1,xn];exact iJ p r (i+1)
theorem jt {α:Type} {l:List α} {p:α→Bool} {D:Nat→cm}
  (step : ∀(i:Nat) (x:α) (o:Out),l[i]? = some x→(p x=true→Out.ret (sI .i64 i) []=o)→(p x=false→bR ab5 env (D (i+1)) o)→bR ab5 env (D i) o)
  (fin:bR ab5 env (D l.length) (.ret (sI .i64 (-1)) [])) :
  ∀(r i:Nat),i+r=l.length→bR ab5 env (D i) (.ret (sI .i64 (je p (l.drop i) i)) []):=by
 intro r
 induction r with
 |zero=>
  intro i hi
  obtain rfl:i=l.length:=by omega
  rw[ae0]
  exact fin
 |succ r ih=>
  intro i hi
  have hl:i<l.length:=by omega
  rw[aeZ hl]
  refine step i l[i] _ (bm hl) (fun q=> ?_) fun q=> ?_
  · simp only[je,q,if_true]
  · simp only[je,q,Bool.false_eq_true,if_false]
    exact ih (i+1) (by omega)
abbrev fA (s:ByteArray):List PV:=[.sc (.string s)]
abbrev Ey (l:List Ins):List PV:=[pL l]
theorem OI (l:List El) (hl:l.length≤10000000) (p:El→Bool) (hp : ∀x∈l,an ab5 env 68 [(.agg ((aX x).map .p))] [] (sB (p x)) []) :
  an ab5 env 97 [.p (.ps l.length 2 (l.flatMap aX)),.fn (.func 68) [] []] [] (sI .i64 (je p l 0)) []:=by
 refine af aM (KR l.length (l.flatMap aX)) ?_
 refine jt (l:=l) (p:=p) (D:=fun i=>ak ab5 env 97 0 [.p (.ps l.length 2 (l.flatMap aX)),.fn (.func 68) [] [],sI .i64 l.length,sI .i64 i] [] 0 19) ?_ ?_ l.length 0 (by omega)
 · intro i x o hx h1 h2
   have hi:i<l.length:=(di.1 hx).1
   have c:=bq (z:=2) (enc:=aX) (fun _=>rfl) hx
   have c0:(l.flatMap aX).getD (i*2) .bK=pL x.l:=c 0 (by decide)
   have c1:(l.flatMap aX).getD (i*2+1) .bK=pT .u32 x.fs:=c 1 (by decide)
   have w:rn.wrap ((i:Int)+1)=((i+1:Nat):Int):=by rw[aO (by omega) (by omega)];rfl
   have hd:decide ((i:Int)<(l.length:Int))=true:=by simp;omega
   refine ah aM (Ei l.length i (l.flatMap aX) (p x)) ?_
   simp only[CG,bN,aC.ok,isStr,isInt,bB,isBool,bI,az,bu,aD,bh,au,bp,aep,c0,c1,hd,w]
   exact⟨fun _=>⟨by first | (simp;done) | (simp;omega),rfl,hp x (mc hx),h1,h2⟩,fun q=>(by cases q)⟩
 · have hd:decide ((l.length:Int)<(l.length:Int))=false:=by simp
   refine ah aM (Ei l.length l.length (l.flatMap aX) true) ?_
   simp only[CG,bN,aC.ok,hd]
   exact⟨fun q=>(by cases q),fun _=>trivial⟩
theorem OJ (l:List El) (hl:l.length≤10000000) (p:El→Bool) (hp : ∀x∈l,an ab5 env 68 [(.agg ((aX x).map .p))] [] (sB (p x)) []) :
  an ab5 env 67 [.p (.ps l.length 2 (l.flatMap aX)),.fn (.func 68) [] []] [] (sB (l.any p)) []:=by
 refine af aM (Og l.length (l.flatMap aX) (je p l 0)) ?_
 simp only[ID,aC.ok,iJ]
 exact⟨OI l hl p hp,trivial⟩
theorem OK (l:List ByteArray) (hl:l.length≤10000000) (p:ByteArray→Bool) (hp : ∀x∈l,an ab5 env 72 [(.p (.sc (.string x)))] [] (sB (p x)) []) :
  an ab5 env 99 [.p (.ps l.length 1 (l.flatMap fA)),.fn (.func 72) [] []] [] (sI .i64 (je p l 0)) []:=by
 refine af aM (KS l.length (l.flatMap fA)) ?_
 refine jt (l:=l) (p:=p) (D:=fun i=>ak ab5 env 99 0 [.p (.ps l.length 1 (l.flatMap fA)),.fn (.func 72) [] [],sI .i64 l.length,sI .i64 i] [] 0 19) ?_ ?_ l.length 0 (by omega)
 · intro i x o hx h1 h2
   have hi:i<l.length:=(di.1 hx).1
   have c:=bq (z:=1) (enc:=fA) (fun _=>rfl) hx
   have c0:(l.flatMap fA).getD (i*1) .bK = .sc (.string x):=c 0 (by decide)
   have w:rn.wrap ((i:Int)+1)=((i+1:Nat):Int):=by rw[aO (by omega) (by omega)];rfl
   have hd:decide ((i:Int)<(l.length:Int))=true:=by simp;omega
   refine ah aM (Ej l.length i (l.flatMap fA) (p x)) ?_
   simp only[CH,bN,aC.ok,isStr,isInt,bB,isBool,bI,az,bu,aD,bh,au,bp,aep,c0,hd,w]
   exact⟨fun _=>⟨by first | (simp;done) | (simp;omega),rfl,hp x (mc hx),h1,h2⟩,fun q=>(by cases q)⟩
 · have hd:decide ((l.length:Int)<(l.length:Int))=false:=by simp
   refine ah aM (Ej l.length l.length (l.flatMap fA) true) ?_
   simp only[CH,bN,aC.ok,hd]
   exact⟨fun q=>(by cases q),fun _=>trivial⟩
theorem OL (l:List ByteArray) (hl:l.length≤10000000) (p:ByteArray→Bool) (hp : ∀x∈l,an ab5 env 72 [(.p (.sc (.string x)))] [] (sB (p x)) []) :
  an ab5 env 70 [.p (.ps l.length 1 (l.flatMap fA)),.fn (.func 72) [] []] [] (sB (l.any p)) []:=by
 refine af aM (Oh l.length (l.flatMap fA) (je p l 0)) ?_
 simp only[IE,aC.ok,iJ]
 exact⟨OK l hl p hp,trivial⟩
theorem OM (l:List ByteArray) (hl:l.length≤10000000) (p:ByteArray→Bool) (hp : ∀x∈l,an ab5 env 81 [(.p (.sc (.string x)))] [] (sB (p x)) []) :
  an ab5 env 99 [.p (.ps l.length 1 (l.flatMap fA)),.fn (.func 81) [] []] [] (sI .i64 (je p l 0)) []:=by
 refine af aM (KT l.length (l.flatMap fA)) ?_
 refine jt (l:=l) (p:=p) (D:=fun i=>ak ab5 env 99 0 [.p (.ps l.length 1 (l.flatMap fA)),.fn (.func 81) [] [],sI .i64 l.length,sI .i64 i] [] 0 19) ?_ ?_ l.length 0 (by omega)
 · intro i x o hx h1 h2
   have hi:i<l.length:=(di.1 hx).1
   have c:=bq (z:=1) (enc:=fA) (fun _=>rfl) hx
   have c0:(l.flatMap fA).getD (i*1) .bK = .sc (.string x):=c 0 (by decide)
   have w:rn.wrap ((i:Int)+1)=((i+1:Nat):Int):=by rw[aO (by omega) (by omega)];rfl
   have hd:decide ((i:Int)<(l.length:Int))=true:=by simp;omega
   refine ah aM (Ek l.length i (l.flatMap fA) (p x)) ?_
   simp only[CJ,bN,aC.ok,isStr,isInt,bB,isBool,bI,az,bu,aD,bh,au,bp,aep,c0,hd,w]
   exact⟨fun _=>⟨by first | (simp;done) | (simp;omega),rfl,hp x (mc hx),h1,h2⟩,fun q=>(by cases q)⟩
 · have hd:decide ((l.length:Int)<(l.length:Int))=false:=by simp
   refine ah aM (Ek l.length l.length (l.flatMap fA) true) ?_
   simp only[CJ,bN,aC.ok,hd]
   exact⟨fun q=>(by cases q),fun _=>trivial⟩
theorem ON (l:List ByteArray) (hl:l.length≤10000000) (p:ByteArray→Bool) (hp : ∀x∈l,an ab5 env 81 [(.p (.sc (.string x)))] [] (sB (p x)) []) :
  an ab5 env 70 [.p (.ps l.length 1 (l.flatMap fA)),.fn (.func 81) [] []] [] (sB (l.any p)) []:=by
 refine af aM (Oi l.length (l.flatMap fA) (je p l 0)) ?_
 simp only[IF,aC.ok,iJ]
 exact⟨OM l hl p hp,trivial⟩
theorem OO (l:List Ty) (hl:l.length≤10000000) (p:Ty→Bool) (hp : ∀x∈l,an ab5 env 74 [(.agg ((bW x).map .p))] [] (sB (p x)) []) :
  an ab5 env 100 [.p (.ps l.length 2 (l.flatMap bW)),.fn (.func 74) [] []] [] (sI .i64 (je p l 0)) []:=by
 refine af aM (KU l.length (l.flatMap bW)) ?_
 refine jt (l:=l) (p:=p) (D:=fun i=>ak ab5 env 100 0 [.p (.ps l.length 2 (l.flatMap bW)),.fn (.func 74) [] [],sI .i64 l.length,sI .i64 i] [] 0 19) ?_ ?_ l.length 0 (by omega)
 · intro i x o hx h1 h2
   have hi:i<l.length:=(di.1 hx).1
   have c:=bq (z:=2) (enc:=bW) (fun _=>rfl) hx
   have c0:(l.flatMap bW).getD (i*2) .bK = .sc (.int .i64 x.p):=c 0 (by decide)
   have c1:(l.flatMap bW).getD (i*2+1) .bK = .sc (.int .i64 x.r):=c 1 (by decide)
   have w:rn.wrap ((i:Int)+1)=((i+1:Nat):Int):=by rw[aO (by omega) (by omega)];rfl
   have hd:decide ((i:Int)<(l.length:Int))=true:=by simp;omega
   refine ah aM (Em l.length i (l.flatMap bW) (p x)) ?_
   simp only[CK,bN,aC.ok,isStr,isInt,bB,isBool,bI,az,bu,aD,bh,au,bp,aep,c0,c1,hd,w]
   exact⟨fun _=>⟨by first | (simp;done) | (simp;omega),rfl,hp x (mc hx),h1,h2⟩,fun q=>(by cases q)⟩
 · have hd:decide ((l.length:Int)<(l.length:Int))=false:=by simp
   refine ah aM (Em l.length l.length (l.flatMap bW) true) ?_
   simp only[CK,bN,aC.ok,hd]
   exact⟨fun q=>(by cases q),fun _=>trivial⟩
theorem OP (l:List Ty) (hl:l.length≤10000000) (p:Ty→Bool) (hp : ∀x∈l,an ab5 env 74 [(.agg ((bW x).map .p))] [] (sB (p x)) []) :
  an ab5 env 73 [.p (.ps l.length 2 (l.flatMap bW)),.fn (.func 74) [] []] [] (sB (l.any p)) []:=by
 refine af aM (Oj l.length (l.flatMap bW) (je p l 0)) ?_
 simp only[IG,aC.ok,iJ]
 exact⟨OO l hl p hp,trivial⟩
theorem OQ (l:List Im) (hl:l.length≤10000000) (p:Im→Bool) (hp : ∀x∈l,an ab5 env 77 [(.agg ((bQ x).map .p))] [] (sB (p x)) []) :
  an ab5 env 101 [.p (.ps l.length 3 (l.flatMap bQ)),.fn (.func 77) [] []] [] (sI .i64 (je p l 0)) []:=by
 refine af aM (KV l.length (l.flatMap bQ)) ?_
 refine jt (l:=l) (p:=p) (D:=fun i=>ak ab5 env 101 0 [.p (.ps l.length 3 (l.flatMap bQ)),.fn (.func 77) [] [],sI .i64 l.length,sI .i64 i] [] 0 19) ?_ ?_ l.length 0 (by omega)
 · intro i x o hx h1 h2
   have hi:i<l.length:=(di.1 hx).1
   have c:=bq (z:=3) (enc:=bQ) (fun _=>rfl) hx
   have c0:(l.flatMap bQ).getD (i*3) .bK = .sc (.string x.mo):=c 0 (by decide)
   have c1:(l.flatMap bQ).getD (i*3+1) .bK = .sc (.string x.nm):=c 1 (by decide)
   have c2:(l.flatMap bQ).getD (i*3+1+1) .bK = .sc (.int .i64 x.ty):=c 2 (by decide)
   have w:rn.wrap ((i:Int)+1)=((i+1:Nat):Int):=by rw[aO (by omega) (by omega)];rfl
   have hd:decide ((i:Int)<(l.length:Int))=true:=by simp;omega
   refine ah aM (En l.length i (l.flatMap bQ) (p x)) ?_
   simp only[CM,bN,aC.ok,isStr,isInt,bB,isBool,bI,az,bu,aD,bh,au,bp,aep,c0,c1,c2,hd,w]
   exact⟨fun _=>⟨by first | (simp;done) | (simp;omega),rfl,hp x (mc hx),h1,h2⟩,fun q=>(by cases q)⟩
 · have hd:decide ((l.length:Int)<(l.length:Int))=false:=by simp
   refine ah aM (En l.length l.length (l.flatMap bQ) true) ?_
   simp only[CM,bN,aC.ok,hd]
   exact⟨fun q=>(by cases q),fun _=>trivial⟩
theorem OR (l:List Im) (hl:l.length≤10000000) (p:Im→Bool) (hp : ∀x∈l,an ab5 env 77 [(.agg ((bQ x).map .p))] [] (sB (p x)) []) :
  an ab5 env 76 [.p (.ps l.length 3 (l.flatMap bQ)),.fn (.func 77) [] []] [] (sB (l.any p)) []:=by
 refine af aM (Ol l.length (l.flatMap bQ) (je p l 0)) ?_
 simp only[II,aC.ok,iJ]
 exact⟨OQ l hl p hp,trivial⟩
theorem OS (l:List Fu) (hl:l.length≤10000000) (p:Fu→Bool) (hp : ∀x∈l,an ab5 env 80 [(.agg ((aV x).map .p))] [] (sB (p x)) []) :
  an ab5 env 102 [.p (.ps l.length 3 (l.flatMap aV)),.fn (.func 80) [] []] [] (sI .i64 (je p l 0)) []:=by
 refine af aM (KW l.length (l.flatMap aV)) ?_
 refine jt (l:=l) (p:=p) (D:=fun i=>ak ab5 env 102 0 [.p (.ps l.length 3 (l.flatMap aV)),.fn (.func 80) [] [],sI .i64 l.length,sI .i64 i] [] 0 19) ?_ ?_ l.length 0 (by omega)
 · intro i x o hx h1 h2
   have hi:i<l.length:=(di.1 hx).1
   have c:=bq (z:=3) (enc:=aV) (fun _=>rfl) hx
   have c0:(l.flatMap aV).getD (i*3) .bK = .sc (.int .i64 x.ty):=c 0 (by decide)
   have c1:(l.flatMap aV).getD (i*3+1) .bK = .sc (.int .i64 x.lo):=c 1 (by decide)
   have c2:(l.flatMap aV).getD (i*3+1+1) .bK=pL x.l:=c 2 (by decide)
   have w:rn.wrap ((i:Int)+1)=((i+1:Nat):Int):=by rw[aO (by omega) (by omega)];rfl
   have hd:decide ((i:Int)<(l.length:Int))=true:=by simp;omega
   refine ah aM (Eo l.length i (l.flatMap aV) (p x)) ?_
   simp only[CN,bN,aC.ok,isStr,isInt,bB,isBool,bI,az,bu,aD,bh,au,bp,aep,c0,c1,c2,hd,w]
   exact⟨fun _=>⟨by first | (simp;done) | (simp;omega),rfl,hp x (mc hx),h1,h2⟩,fun q=>(by cases q)⟩
 · have hd:decide ((l.length:Int)<(l.length:Int))=false:=by simp
   refine ah aM (Eo l.length l.length (l.flatMap aV) true) ?_
   simp only[CN,bN,aC.ok,hd]
   exact⟨fun q=>(by cases q),fun _=>trivial⟩
theorem OT (l:List Fu) (hl:l.length≤10000000) (p:Fu→Bool) (hp : ∀x∈l,an ab5 env 80 [(.agg ((aV x).map .p))] [] (sB (p x)) []) :
  an ab5 env 79 [.p (.ps l.length 3 (l.flatMap aV)),.fn (.func 80) [] []] [] (sB (l.any p)) []:=by
 refine af aM (Om l.length (l.flatMap aV) (je p l 0)) ?_
 simp only[IJ,aC.ok,iJ]
 exact⟨OS l hl p hp,trivial⟩
theorem OU (l:List Li) (hl:l.length≤10000000) (p:Li→Bool) (hp : ∀x∈l,an ab5 env 84 [(.agg ((aN x).map .p))] [] (sB (p x)) []) :
  an ab5 env 104 [.p (.ps l.length 3 (l.flatMap aN)),.fn (.func 84) [] []] [] (sI .i64 (je p l 0)) []:=by
 refine af aM (KX l.length (l.flatMap aN)) ?_
 refine jt (l:=l) (p:=p) (D:=fun i=>ak ab5 env 104 0 [.p (.ps l.length 3 (l.flatMap aN)),.fn (.func 84) [] [],sI .i64 l.length,sI .i64 i] [] 0 19) ?_ ?_ l.length 0 (by omega)
 · intro i x o hx h1 h2
   have hi:i<l.length:=(di.1 hx).1
   have c:=bq (z:=3) (enc:=aN) (fun _=>rfl) hx
   have c0:(l.flatMap aN).getD (i*3) .bK = .sc (.int .u32 x.mn):=c 0 (by decide)
   have c1:(l.flatMap aN).getD (i*3+1) .bK = .sc (.int .u32 x.mx):=c 1 (by decide)
   have c2:(l.flatMap aN).getD (i*3+1+1) .bK = .sc (.bool x.cap):=c 2 (by decide)
   have w:rn.wrap ((i:Int)+1)=((i+1:Nat):Int):=by rw[aO (by omega) (by omega)];rfl
   have hd:decide ((i:Int)<(l.length:Int))=true:=by simp;omega
   refine ah aM (Ep l.length i (l.flatMap aN) (p x)) ?_
   simp only[CO,bN,aC.ok,isStr,isInt,bB,isBool,bI,az,bu,aD,bh,au,bp,aep,c0,c1,c2,hd,w]
   exact⟨fun _=>⟨by first | (simp;done) | (simp;omega),rfl,hp x (mc hx),h1,h2⟩,fun q=>(by cases q)⟩
 · have hd:decide ((l.length:Int)<(l.length:Int))=false:=by simp
   refine ah aM (Ep l.length l.length (l.flatMap aN) true) ?_
   simp only[CO,bN,aC.ok,hd]
   exact⟨fun q=>(by cases q),fun _=>trivial⟩
theorem OV (l:List Li) (hl:l.length≤10000000) (p:Li→Bool) (hp : ∀x∈l,an ab5 env 84 [(.agg ((aN x).map .p))] [] (sB (p x)) []) :
  an ab5 env 83 [.p (.ps l.length 3 (l.flatMap aN)),.fn (.func 84) [] []] [] (sB (l.any p)) []:=by
 refine af aM (On l.length (l.flatMap aN) (je p l 0)) ?_
 simp only[IK,aC.ok,iJ]
 exact⟨OU l hl p hp,trivial⟩
theorem OW (l:List Li) (hl:l.length≤10000000) (p:Li→Bool) (hp : ∀x∈l,an ab5 env 85 [(.agg ((aN x).map .p))] [] (sB (p x)) []) :
  an ab5 env 104 [.p (.ps l.length 3 (l.flatMap aN)),.fn (.func 85) [] []] [] (sI .i64 (je p l 0)) []:=by
 refine af aM (KY l.length (l.flatMap aN)) ?_
 refine jt (l:=l) (p:=p) (D:=fun i=>ak ab5 env 104 0 [.p (.ps l.length 3 (l.flatMap aN)),.fn (.func 85) [] [],sI .i64 l.length,sI .i64 i] [] 0 19) ?_ ?_ l.length 0 (by omega)
 · intro i x o hx h1 h2
   have hi:i<l.length:=(di.1 hx).1
   have c:=bq (z:=3) (enc:=aN) (fun _=>rfl) hx
   have c0:(l.flatMap aN).getD (i*3) .bK = .sc (.int .u32 x.mn):=c 0 (by decide)
   have c1:(l.flatMap aN).getD (i*3+1) .bK = .sc (.int .u32 x.mx):=c 1 (by decide)
   have c2:(l.flatMap aN).getD (i*3+1+1) .bK = .sc (.bool x.cap):=c 2 (by decide)
   have w:rn.wrap ((i:Int)+1)=((i+1:Nat):Int):=by rw[aO (by omega) (by omega)];rfl
   have hd:decide ((i:Int)<(l.length:Int))=true:=by simp;omega
   refine ah aM (Er l.length i (l.flatMap aN) (p x)) ?_
   simp only[CP,bN,aC.ok,isStr,isInt,bB,isBool,bI,az,bu,aD,bh,au,bp,aep,c0,c1,c2,hd,w]
   exact⟨fun _=>⟨by first | (simp;done) | (simp;omega),rfl,hp x (mc hx),h1,h2⟩,fun q=>(by cases q)⟩
 · have hd:decide ((l.length:Int)<(l.length:Int))=false:=by simp
   refine ah aM (Er l.length l.length (l.flatMap aN) true) ?_
   simp only[CP,bN,aC.ok,hd]
   exact⟨fun q=>(by cases q),fun _=>trivial⟩
theorem OX (l:List Li) (hl:l.length≤10000000) (p:Li→Bool) (hp : ∀x∈l,an ab5 env 85 [(.agg ((aN x).map .p))] [] (sB (p x)) []) :
  an ab5 env 83 [.p (.ps l.length 3 (l.flatMap aN)),.fn (.func 85) [] []] [] (sB (l.any p)) []:=by
 refine af aM (Oo l.length (l.flatMap aN) (je p l 0)) ?_
 simp only[IL,aC.ok,iJ]
 exact⟨OW l hl p hp,trivial⟩
theorem OY (l:List Ex) (hl:l.length≤10000000) (p:Ex→Bool) (hp : ∀x∈l,an ab5 env 87 [(.agg ((aW x).map .p))] [] (sB (p x)) []) :
  an ab5 env 105 [.p (.ps l.length 3 (l.flatMap aW)),.fn (.func 87) [] []] [] (sI .i64 (je p l 0)) []:=by
 refine af aM (KZ l.length (l.flatMap aW)) ?_
 refine jt (l:=l) (p:=p) (D:=fun i=>ak ab5 env 105 0 [.p (.ps l.length 3 (l.flatMap aW)),.fn (.func 87) [] [],sI .i64 l.length,sI .i64 i] [] 0 19) ?_ ?_ l.length 0 (by omega)
 · intro i x o hx h1 h2
   have hi:i<l.length:=(di.1 hx).1
   have c:=bq (z:=3) (enc:=aW) (fun _=>rfl) hx
   have c0:(l.flatMap aW).getD (i*3) .bK = .sc (.string x.nm):=c 0 (by decide)
   have c1:(l.flatMap aW).getD (i*3+1) .bK = .sc (.int .i64 x.kind):=c 1 (by decide)
   have c2:(l.flatMap aW).getD (i*3+1+1) .bK = .sc (.int .u32 x.ix):=c 2 (by decide)
   have w:rn.wrap ((i:Int)+1)=((i+1:Nat):Int):=by rw[aO (by omega) (by omega)];rfl
   have hd:decide ((i:Int)<(l.length:Int))=true:=by simp;omega
   refine ah aM (Es l.length i (l.flatMap aW) (p x)) ?_
   simp only[CQ,bN,aC.ok,isStr,isInt,bB,isBool,bI,az,bu,aD,bh,au,bp,aep,c0,c1,c2,hd,w]
   exact⟨fun _=>⟨by first | (simp;done) | (simp;omega),rfl,hp x (mc hx),h1,h2⟩,fun q=>(by cases q)⟩
 · have hd:decide ((l.length:Int)<(l.length:Int))=false:=by simp
   refine ah aM (Es l.length l.length (l.flatMap aW) true) ?_
   simp only[CQ,bN,aC.ok,hd]
   exact⟨fun q=>(by cases q),fun _=>trivial⟩
theorem OZ (l:List Ex) (hl:l.length≤10000000) (p:Ex→Bool) (hp : ∀x∈l,an ab5 env 87 [(.agg ((aW x).map .p))] [] (sB (p x)) []) :
  an ab5 env 86 [.p (.ps l.length 3 (l.flatMap aW)),.fn (.func 87) [] []] [] (sB (l.any p)) []:=by
 refine af aM (Oq l.length (l.flatMap aW) (je p l 0)) ?_
 simp only[IM,aC.ok,iJ]
 exact⟨OY l hl p hp,trivial⟩
def kcF (x:Ty):Int:=if 0≤x.p∧x.p≤255∧0≤x.r∧x.r≤1 then 0 else 2
def TL (most:Int) (x:Li):Int:=if x.mn>most∨(x.cap=true∧(x.mx<x.mn∨x.mx>most))∨(x.cap=false∧x.mx≠0) then 2 else 0
theorem O0 (x:Ty):an ab5 env 75 [.agg ((bW x).map .p)] [] (sI .i64 (kcF x)) []:=by
 refine af aM (Ot x.p x.r) ?_
 simp only[IN,aC.ok,cond_true,cond_false,Bool.and_true]
 refine⟨fun q=> ?_,fun q=> ?_⟩
 · simp only[Bool.not_eq_true',Bool.and_eq_false_iff,beq_eq_false_iff_ne,ne_eq] at q
   rw[kcF,if_neg (by omega)]
 · simp only[Bool.not_eq_false',Bool.and_eq_true,beq_iff_eq] at q
   rw[kcF,if_pos (by omega)]
theorem Ez (x:Li) (most:Int):an ab5 env 64 [.agg ((aN x).map .p),sI .u32 most] [] (sI .i64 (TL most x)) []:=by
 refine af aM (Ou x.mn x.mx x.cap most) ?_
 obtain⟨mn,mx,cap⟩:=x
 simp only[IP,aC.ok,TL]
 cases cap with
 |true=>
  refine⟨fun q=> ?_,fun q=>⟨fun _=>⟨fun r=> ?_,fun r=>⟨fun t=> ?_,fun t=>⟨rfl,?_⟩⟩⟩,fun r=>(by cases r)⟩⟩<;>simp only[decide_eq_true_eq,decide_eq_false_iff_not] at *
  · rw[if_pos (.inl q)]
  · rw[if_pos (.inr (.inl ⟨trivial,.inl r⟩))]
  · rw[if_pos (.inr (.inl ⟨trivial,.inr t⟩))]
  · rw[if_neg (by simp;omega)]
 |false=>
  refine⟨fun q=> ?_,fun q=>⟨fun r=>(by cases r),fun _=>⟨rfl,fun r=> ?_,fun r=> ?_⟩⟩⟩
  · simp only[decide_eq_true_eq] at q
    rw[if_pos (.inl q)]
  · rw[if_pos (.inr (.inr ⟨rfl,by simpa using r⟩))]
  · simp only[decide_eq_false_iff_not] at q
    have r:mx=0:=by simpa using r
    rw[if_neg (by simp[r];omega)]
def IW (x:El):Bool:=decide ((x.fs.length:Int)>16384)
def O1 (s:ByteArray):Bool:=decide ((s.data.toList.length:Int)>1000)
def GR (x:Ty):Bool:=kcF x != 0
def GS (x:Im):Bool:= !(decide (0≤x.ty)&&decide (x.ty≤2147483647))
def EA (x:Fu):Bool:= !(decide (0≤x.ty)&&decide (x.ty≤2147483647))||decide (x.lo<0)||decide (x.lo>50000)
def tC (most:Int) (x:Li):Bool:=TL most x != 0
def EB (x:Ex):Bool:=decide (x.kind<0)||decide (x.kind>3)
theorem O2 (x:El):an ab5 env 68 [.agg ((aX x).map .p)] [] (sB (IW x)) []:=af aM (Ov x) rfl
theorem O3 (s:ByteArray):an ab5 env 72 [.p (.sc (.string s))] [] (sB (O1 s)) []:=af aM (Ow s) rfl
theorem O4 (x:Ty):an ab5 env 74 [.agg ((bW x).map .p)] [] (sB (GR x)) []:=af aM (Oy x (kcF x)) ⟨O0 x,rfl⟩
theorem O5 (x:Li):an ab5 env 84 [.agg ((aN x).map .p)] [] (sB (tC 1048576 x)) []:=af aM (OA x (TL 1048576 x)) ⟨Ez x _,rfl⟩
theorem O6 (x:Li):an ab5 env 85 [.agg ((aN x).map .p)] [] (sB (tC 65536 x)) []:=af aM (OB x (TL 65536 x)) ⟨Ez x _,rfl⟩
theorem O7 (x:Im):an ab5 env 77 [.agg ((bQ x).map .p)] [] (sB (GS x)) []:=by
 refine af aM (Oz x) ?_
 simp only[IQ,bN,aC.ok,GS,ge_iff_le]
 exact⟨fun q=>by rw[q,ae2],fun q=>by rw[q];rfl⟩
theorem O8 (x:Ex):an ab5 env 87 [.agg ((aW x).map .p)] [] (sB (EB x)) []:=by
 refine af aM (OC x) ?_
 simp only[IS,bN,aC.ok,EB]
 exact⟨fun q=>by rw[q];rfl,fun q=>by rw[q,xn]⟩
theorem O9 (x:Fu):an ab5 env 80 [.agg ((aV x).map .p)] [] (sB (EA x)) []:=by
 refine af aM (OD x) ?_
 simp only[IT,bN,aC.ok,EA,ge_iff_le]
 refine⟨fun q=>⟨fun r=> ?_,fun r=>⟨fun t=> ?_,fun t=> ?_⟩⟩,fun q=> ?_⟩
 · rw[q,ae2,r];rfl
 · rw[q,ae2,r,t];rfl
 · rw[q,ae2,r,t];rfl
 · rw[q];rfl
def Di (M:Mo):List ByteArray:=M.aZ.flatMap (fun x=>[x.mo,x.nm])++M.exs.map Ex.nm
def uQ (M:Mo):List (List Ins):=M.fns.map Fu.l++M.gls.map Gl.l++M.els.map El.l++M.bt.map Da.l
theorem lC {α β:Type} {f:α→β} {g:β→List PV} : ∀l:List α,(l.map f).flatMap g=l.flatMap fun x=>g (f x)
 |[]=>rfl
 |x::r=>by rw[List.map_cons,aeS,aeS,lC r]
theorem IX : ∀l:List Im,(l.flatMap fun x=>[x.mo,x.nm]).flatMap fA=l.flatMap V7
 |[]=>rfl
 |x::r=>by rw[aeS,aeS,aeY,IX r];rfl
theorem IY (M:Mo):NX M=(Di M).flatMap fA:=by
 rw[Di,aeY,lC,IX];rfl
theorem IZ (M:Mo):Tr M=(uQ M).flatMap Ey:=by
 rw[uQ,aeY,aeY,aeY,lC,lC,lC,lC];rfl
theorem I0 (M:Mo):(NX M).length=(Di M).length:=by rw[IY,gq (n:=1) (fun _=>rfl),aeX]
theorem TM (M:Mo):(Tr M).length=(uQ M).length:=by rw[IZ,gq (n:=1) (fun _=>rfl),aeX]
theorem Pa {M:Mo} (hM:M.fit):(Di M).length≤10000000:=by
 have h1:=hM.aZ;have h2:=hM.exs
 have l1:=gq (f:=V7) (n:=2) (fun _=>rfl) M.aZ
 have l2:=gq (f:=nmE) (n:=1) (fun _=>rfl) M.exs
 rw[←I0,NX,de];omega
theorem YF {M:Mo} (hM:M.fit):(uQ M).length≤10000000:=by
 have h1:=hM.fns;have h2:=hM.gls;have h3:=hM.els;have h4:=hM.bt
 simp only[uQ,de,List.length_map];omega
theorem Pb (M:Mo) (hM:M.fit):an ab5 env 71 [.agg (M.aJ.map .p)] [] (.p (.ps (Di M).length 1 ((Di M).flatMap fA))) []:=by
 have h:=GO M hM
 rw[I0,IY] at h
 exact h
theorem YG (M:Mo) (hM:M.fit):an ab5 env 98 [.agg (M.aJ.map .p)] [] (.p (.ps (uQ M).length 1 ((uQ M).flatMap Ey))) []:=by
 have h:=GP M hM
 rw[TM,IZ] at h
 exact h
def _root_.Go.Am.Mo.CT (M:Mo):Prop:= ∀l∈uQ M,cS l≤100000000000
def tD (M:Mo) (e:Int):Bool:=(uQ M).any fun l=>iA vr l==e
theorem TN {l:List (List Ins)} {e:Int} (hl:l.length≤10000000) (hs : ∀x∈l,cS x≤100000000000) : ∀(r i:Nat),i+r=l.length →
  bR ab5 env (ak ab5 env 69 0 [sI .i64 e,.p (.ps l.length 1 (l.flatMap Ey)),sI .i64 l.length,sI .i64 i] [] 0 20) (.ret (sI .i64 (if(l.drop i).any (fun x=>iA vr x==e)=true then e else 0)) []):=by
 intro r
 induction r with
 |zero=>
  intro i hi
  obtain rfl:i=l.length:=by omega
  have hd:decide ((l.length:Int)<(l.length:Int))=false:=by simp
  refine ah aM (Et e l.length l.length (l.flatMap Ey) 0) ?_
  simp only[CR,bN,aC.ok,hd,ae0]
  exact⟨fun q=>(by cases q),fun _=>rfl⟩
 |succ r ih=>
  intro i hi
  have ud:i<l.length:=by omega
  have hx:=bm ud
  have hm:l[i]∈l:=List.getElem_mem ud
  rw[aeZ ud,ae1]
  generalize l[i]=x at *
  have c:=bq (z:=1) (enc:=Ey) (fun _=>rfl) hx
  have c0:(l.flatMap Ey).getD (i*1) .bK=pL x:=c 0 (by decide)
  have w:rn.wrap ((i:Int)+1)=((i+1:Nat):Int):=by rw[aO (by omega) (by omega)];rfl
  have hd:decide ((i:Int)<(l.length:Int))=true:=by simp;omega
  refine ah aM (Et e l.length i (l.flatMap Ey) (iA vr x)) ?_
  simp only[CR,bN,aC.ok,bB,aD,bh,au,bp,aep,c0,hd,w]
  refine⟨fun _=>⟨by first | (simp;done) | (simp;omega),rfl,yh Bc x (hs x hm),fun q=> ?_,fun q=> ?_⟩,fun q=>(by cases q)⟩
  · rw[q,Bool.true_or,if_pos rfl]
  · rw[q,xn]
    exact ih (i+1) (by omega)
theorem uR (M:Mo) (hM:M.fit) (hs:M.CT) (e:Int):an ab5 env 69 [.agg (M.aJ.map .p),sI .i64 e] [] (sI .i64 (if tD M e=true then e else 0)) []:=by
 refine af aM (OE M e (uQ M).length ((uQ M).flatMap Ey)) ?_
 exact⟨YG M hM,TN (YF hM) hs (uQ M).length 0 (by omega)⟩
def yE:Int→List Da→Int
 |n,[]=>n
 |n,x::r=>yE (n-min (x.bs.length:Int) (n+1)) r
def rI (M:Mo):Bool:=(Di M).any O1
def EC (M:Mo):Int:=if yE 1048576 M.bt<0∨rI M=true then 3 else 0
theorem TO (M:Mo) (hM:M.fit) : ∀(r i:Nat) (n:Int),i+r=M.bt.length → -1≤n→n≤1048576 →
  bR ab5 env (ak ab5 env 31 0 [.mp 0 0,sI .i64 n,.p (.ps M.bt.length 2 (M.bt.flatMap bg)),sI .i64 M.bt.length,sI .i64 i] [.pc M.aJ] 0 29) (.ret (sI .i64 (if yE n (M.bt.drop i)<0∨rI M=true then 3 else 0)) []):=by
 intro r
 induction r with
 |zero=>
  intro i n hi h1 h2
  obtain rfl:i=M.bt.length:=by omega
  have hd:decide ((M.bt.length:Int)<(M.bt.length:Int))=false:=by simp
  refine ah aM (Eu M M.bt.length M.bt.length n (M.bt.flatMap bg) (Di M).length ((Di M).flatMap fA) (rI M)) ?_
  simp only[CS,bN,aC.ok,hd,ae0,yE]
  refine⟨fun q=>(by cases q),fun _=>⟨fun q=> ?_,fun q=>⟨Pb M hM,OL (Di M) (Pa hM) O1 (fun x _=>O3 x),fun t=> ?_,fun t=> ?_⟩⟩⟩<;>simp only[decide_eq_true_eq,decide_eq_false_iff_not] at q
  · rw[if_pos (.inl q)]
  · rw[if_pos (.inr t)]
  · rw[if_neg (by simp[t];omega)]
 |succ r ih=>
  intro i n hi h1 h2
  have hl:=hM.bt
  have ud:i<M.bt.length:=by omega
  have hx:=bm ud
  rw[aeZ ud]
  generalize M.bt[i]=x at *
  have c:=bq (z:=2) (enc:=bg) (fun _=>rfl) hx
  have c0:(M.bt.flatMap bg).getD (i*2) .bK=pL x.l:=c 0 (by decide)
  have c1:(M.bt.flatMap bg).getD (i*2+1) .bK=pT .u8 x.bs:=c 1 (by decide)
  have w:rn.wrap ((i:Int)+1)=((i+1:Nat):Int):=by rw[aO (by omega) (by omega)];rfl
  have w1:rn.wrap (n+1)=n+1:=aO (by omega) (by omega)
  have w2:rn.wrap (n-min (x.bs.length:Int) (n+1))=n-min (x.bs.length:Int) (n+1):=aO (by omega) (by omega)
  have hd:decide ((i:Int)<(M.bt.length:Int))=true:=by simp;omega
  refine ah aM (Eu M M.bt.length i n (M.bt.flatMap bg) 0 [] true) ?_
  simp only[CS,bN,aC.ok,bB,aD,bh,au,bp,aep,c0,c1,hd,w,w1,w2,cond_true,yE]
  exact⟨fun _=>⟨by first | (simp;done) | (simp;omega),rfl,ih (i+1) _ (by omega) (by omega) (by omega)⟩,fun q=>(by cases q)⟩
theorem K1 (M:Mo) (hM:M.fit):an ab5 env 31 [.agg (M.aJ.map .p)] [] (sI .i64 (EC M)) []:=
 af aM (OF M) (TO M hM M.bt.length 0 1048576 (by omega) (by omega) (by omega))
def pI (M:Mo):Bool:=decide (M.cj.length>1)||decide (M.cM.length>1)||decide (max (max (max (max (max (max (M.tys.length:Int) M.aZ.length) M.fns.length) M.gls.length) M.exs.length) M.els.length) M.bt.length>16384)||M.els.any IW
def Bd (M:Mo):Int:=if pI M=true then 141 else if tD M 141=true then 141 else 0
theorem K2 (M:Mo) (hM:M.fit) (hs:M.CT):an ab5 env 30 [.agg (M.aJ.map .p)] [] (sI .i64 (Bd M)) []:=by
 have hE:=OJ M.els (by have:=hM.els;omega) IW (fun x _=>O2 x)
 refine af aM (OG M (M.els.any IW) (if tD M 141=true then 141 else 0)) ?_
 have hli:=uR M hM hs 141
 have hF:Bd M=if pI M=true then 141 else if tD M 141=true then 141 else 0:=rfl
 generalize (if tD M 141=true then(141:Int) else 0)=v at hli hF ⊢
 simp only[IU,aC.ok,cond_false,cond_true]
 refine⟨fun q=> ?_,fun q=>⟨fun r=> ?_,fun r=>⟨fun t=> ?_,fun t=>⟨hE,fun u=> ?_,fun u=>⟨hli,?_⟩⟩⟩⟩⟩<;>simp only[decide_eq_true_eq,decide_eq_false_iff_not] at *
 · rw[hF,if_pos (by simp only[pI,ib,decide_eq_true_eq];omega)]
 · rw[hF,if_pos (by simp only[pI,ib,decide_eq_true_eq];omega)]
 · rw[hF,if_pos (by simp only[pI,ib,decide_eq_true_eq];omega)]
 · rw[hF,if_pos (by simp[pI,u])]
 · rw[hF,if_neg (by simp only[pI,u,ib,decide_eq_true_eq,Bool.or_false];omega)]
end Go.Proofs.YtjfgfhaoeicpdaaGreatDoor.N
end
