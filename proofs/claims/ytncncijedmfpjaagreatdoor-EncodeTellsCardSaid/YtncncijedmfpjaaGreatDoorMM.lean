import Derived.Test.YtncncijedmfpjaaGreatDoorML
import Derived.Test.YtncncijedmfpjaaGreatDoorMI
open Nat renaming beq→ba,mul_one→ajS
open Go.Proofs.Tryz renaming prog→ae
open Go.Fn renaming func→ajv
open Go.IntKind renaming i64→re,u32→aeG
open Min renaming min→ae4
open Max renaming max→afg
open List renaming getElem?_eq_some_iff→dT,mem_of_getElem?→mv,map→aeM,flatMap_append→ajT,flatMap→ajO,drop_eq_getElem_cons→agj,getElem?_eq_getElem→da,flatMap_cons→aju,drop_length→ajU,length_append→dC,any_cons→ajV
open Bool renaming or_eq_true→iu,true_and→ajX,false_or→pb
open Int renaming toNat_natCast→afm
noncomputable section
section
set_option linter.unusedSimpArgs false
set_option linter.unusedVariables false
namespace Go.Proofs.YtncncijedmfpjaaGreatDoor.N
open Go Go.Am
def ak7 (k i:Nat) (cs:List PV) (ok:Bool) (f:FuncId) (_:List AV) (m:Mem):Option (AV×Mem):=cond (ba f 60) (some (sB ok,m)) none
def ak8 (k i:Nat) (cs:List PV) (ok:Bool) (f:FuncId) (_:List AV) (m:Mem):Option (AV×Mem):=cond (ba f 64) (some (sB ok,m)) none
def ak9 (k i:Nat) (cs:List PV) (ok:Bool) (f:FuncId) (_:List AV) (m:Mem):Option (AV×Mem):=cond (ba f 73) (some (sB ok,m)) none
def ala (k i:Nat) (cs:List PV) (ok:Bool) (f:FuncId) (_:List AV) (m:Mem):Option (AV×Mem):=cond (ba f 66) (some (sB ok,m)) none
def alb (k i:Nat) (cs:List PV) (ok:Bool) (f:FuncId) (_:List AV) (m:Mem):Option (AV×Mem):=cond (ba f 69) (some (sB ok,m)) none
def alc (k i:Nat) (cs:List PV) (ok:Bool) (f:FuncId) (_:List AV) (m:Mem):Option (AV×Mem):=cond (ba f 72) (some (sB ok,m)) none
def ald (k i:Nat) (cs:List PV) (ok:Bool) (f:FuncId) (_:List AV) (m:Mem):Option (AV×Mem):=cond (ba f 76) (some (sB ok,m)) none
def ale (k i:Nat) (cs:List PV) (ok:Bool) (f:FuncId) (_:List AV) (m:Mem):Option (AV×Mem):=cond (ba f 78) (some (sB ok,m)) none
def alf (k i:Nat) (cs:List PV) (ok:Bool) (f:FuncId) (_:List AV) (m:Mem):Option (AV×Mem):=cond (ba f 80) (some (sB ok,m)) none
def alg (k:Nat) (cs:List PV) (r:Int) (f:FuncId) (_:List AV) (m:Mem):Option (AV×Mem):=cond (ba f 107) (some (sI .i64 r,m)) none
def alh (k:Nat) (cs:List PV) (r:Int) (f:FuncId) (_:List AV) (m:Mem):Option (AV×Mem):=cond (ba f 110) (some (sI .i64 r,m)) none
def ali (k:Nat) (cs:List PV) (r:Int) (f:FuncId) (_:List AV) (m:Mem):Option (AV×Mem):=cond (ba f 110) (some (sI .i64 r,m)) none
def alj (k:Nat) (cs:List PV) (r:Int) (f:FuncId) (_:List AV) (m:Mem):Option (AV×Mem):=cond (ba f 111) (some (sI .i64 r,m)) none
def alk (k:Nat) (cs:List PV) (r:Int) (f:FuncId) (_:List AV) (m:Mem):Option (AV×Mem):=cond (ba f 112) (some (sI .i64 r,m)) none
def alm (k:Nat) (cs:List PV) (r:Int) (f:FuncId) (_:List AV) (m:Mem):Option (AV×Mem):=cond (ba f 113) (some (sI .i64 r,m)) none
def aln (k:Nat) (cs:List PV) (r:Int) (f:FuncId) (_:List AV) (m:Mem):Option (AV×Mem):=cond (ba f 115) (some (sI .i64 r,m)) none
def alo (k:Nat) (cs:List PV) (r:Int) (f:FuncId) (_:List AV) (m:Mem):Option (AV×Mem):=cond (ba f 115) (some (sI .i64 r,m)) none
def alp (k:Nat) (cs:List PV) (r:Int) (f:FuncId) (_:List AV) (m:Mem):Option (AV×Mem):=cond (ba f 116) (some (sI .i64 r,m)) none
def alq (s:ByteArray) (r:Int) (f:FuncId) (_:List AV) (m:Mem):Option (AV×Mem):=cond (ba f 74) (some (sI .i64 r,m)) none
def alr (x:Ty) (e:Int) (f:FuncId) (_:List AV) (m:Mem):Option (AV×Mem):=cond (ba f 67) (some (sI .i64 e,m)) none
def agt (x:Li) (e:Int) (f:FuncId) (_:List AV) (m:Mem):Option (AV×Mem):=cond (ba f 77) (some (sI .i64 e,m)) none
def liC (M:Mo) (e:Int) (n:Nat) (cs:List PV) (f:FuncId) (_:List AV) (m:Mem):Option (AV×Mem):=cond (ba f 108) (some (.p (.ps n 1 cs),m)) none
def als (e:Int) (k i:Nat) (cs:List PV) (r:Int) (f:FuncId) (_:List AV) (m:Mem):Option (AV×Mem):=cond (ba f 109) (some (sI .i64 r,m)) none
def loC (M:Mo) (k i:Nat) (left:Int) (cs:List PV) (n:Nat) (ns:List PV) (lg:Bool) (f:FuncId) (_:List AV) (m:Mem):Option (AV×Mem):=cond (ba f 63) (some (.p (.ps n 1 ns),m)) (cond (ba f 62) (some (sB lg,m)) none)
def maC (M:Mo) (b:Bool) (e:Int) (f:FuncId) (_:List AV) (m:Mem):Option (AV×Mem):=cond (ba f 59) (some (sB b,m)) (cond (ba f 61) (some (sI .i64 e,m)) none)
def mcC (M:Mo) (a b c:Int) (fn:FuncId) (_:List AV) (m:Mem):Option (AV×Mem):=cond (ba fn 31) (some (sI .i64 a,m)) (cond (ba fn 32) (some (sI .i64 b,m)) (cond (ba fn 33) (some (sI .i64 c,m)) none))
def U1:bA:=aM aE aC [(107,0)] [] []
def aaJ:Sc:= .fin
def Qk (k:Nat) (cs:List PV):aA:=
 (.at (ah ae env 107 0 [.p (.ps k 2 cs),.fn (ajv 60) [] [],sI .i64 (↑k:Int),sI .i64 0] ([]) 0 19))
theorem Mp (k:Nat) (cs:List PV):aI ae env U1 1000000 107 ([AV.p (PV.ps k 2 cs),AV.fn (ajv 60) [] []]) ([]) aaJ=Qk k cs:=by kernel_rfl
def aaK (k:Nat) (i:Nat) (cs:List PV) (ok:Bool):bA:=aM (ak7 k i cs ok) aC [(107,0)] [(107,0,1),(107,0,2)] [(107,5,3),(107,5,4)]
def agu:Sc:= .fin
def DG (k:Nat) (i:Nat) (cs:List PV) (ok:Bool):aA:=
 (.test (decide ((↑i:Int)<(↑k:Int)))
 (.must (aP (↑i:Int) k&&true&&true)
 (.must (aO (aq cs (aB i*2))&&(aO (aq cs (aB i*2+1))&&true)&&true)
 (.call ⟨60,[.agg [.p (.ps (an (aq cs (aB i*2))) (aD (aq cs (aB i*2))) (ak (aq cs (aB i*2)))),.p (.ps (an (aq cs (aB i*2+1))) (aD (aq cs (aB i*2+1))) (ak (aq cs (aB i*2+1))))]],[],.p (.sc (.bool ok)),[]⟩
 (.test (ok)
 (.out (.ret (sI .i64 (↑i:Int)) []))
 (.at (ah ae env 107 0 [.p (.ps k 2 cs),.fn (ajv 60) [] [],sI .i64 (↑k:Int),sI .i64 (re.wrap ((↑i:Int)+1))] ([]) 0 19))))))
 (.out (.ret (sI .i64 (-1)) [])))
theorem FT (k:Nat) (i:Nat) (cs:List PV) (ok:Bool):grow ae env (aaK k i cs ok) 1000000 true (ah ae env 107 0 ([AV.p (PV.ps k 2 cs),AV.fn (ajv 60) [] [],sI re (↑k:Int),sI re (↑i:Int)]) ([]) 0 19) agu atEnd=DG k i cs ok:=by kernel_rfl
def U2:bA:=aM aE aC [(110,0)] [] []
def aaL:Sc:= .fin
def Ql (k:Nat) (cs:List PV):aA:=
 (.at (ah ae env 110 0 [.p (.ps k 1 cs),.fn (ajv 64) [] [],sI .i64 (↑k:Int),sI .i64 0] ([]) 0 19))
theorem Mq (k:Nat) (cs:List PV):aI ae env U2 1000000 110 ([AV.p (PV.ps k 1 cs),AV.fn (ajv 64) [] []]) ([]) aaL=Ql k cs:=by kernel_rfl
def aaM (k:Nat) (i:Nat) (cs:List PV) (ok:Bool):bA:=aM (ak8 k i cs ok) aC [(110,0)] [(110,0,1),(110,0,2)] [(110,5,3),(110,5,4)]
def agv:Sc:= .fin
def DH (k:Nat) (i:Nat) (cs:List PV) (ok:Bool):aA:=
 (.test (decide ((↑i:Int)<(↑k:Int)))
 (.must (aP (↑i:Int) k&&true&&true)
 (.must (isStr (aq cs (aB i*1))&&true)
 (.call ⟨64,[.p (.sc (.string (bg (aq cs (aB i*1)))))],[],.p (.sc (.bool ok)),[]⟩
 (.test (ok)
 (.out (.ret (sI .i64 (↑i:Int)) []))
 (.at (ah ae env 110 0 [.p (.ps k 1 cs),.fn (ajv 64) [] [],sI .i64 (↑k:Int),sI .i64 (re.wrap ((↑i:Int)+1))] ([]) 0 19))))))
 (.out (.ret (sI .i64 (-1)) [])))
theorem FU (k:Nat) (i:Nat) (cs:List PV) (ok:Bool):grow ae env (aaM k i cs ok) 1000000 true (ah ae env 110 0 ([AV.p (PV.ps k 1 cs),AV.fn (ajv 64) [] [],sI re (↑k:Int),sI re (↑i:Int)]) ([]) 0 19) agv atEnd=DH k i cs ok:=by kernel_rfl
def U3:bA:=aM aE aC [(110,0)] [] []
def aaN:Sc:= .fin
def Qm (k:Nat) (cs:List PV):aA:=
 (.at (ah ae env 110 0 [.p (.ps k 1 cs),.fn (ajv 73) [] [],sI .i64 (↑k:Int),sI .i64 0] ([]) 0 19))
theorem Mr (k:Nat) (cs:List PV):aI ae env U3 1000000 110 ([AV.p (PV.ps k 1 cs),AV.fn (ajv 73) [] []]) ([]) aaN=Qm k cs:=by kernel_rfl
def aaO (k:Nat) (i:Nat) (cs:List PV) (ok:Bool):bA:=aM (ak9 k i cs ok) aC [(110,0)] [(110,0,1),(110,0,2)] [(110,5,3),(110,5,4)]
def agw:Sc:= .fin
def DI (k:Nat) (i:Nat) (cs:List PV) (ok:Bool):aA:=
 (.test (decide ((↑i:Int)<(↑k:Int)))
 (.must (aP (↑i:Int) k&&true&&true)
 (.must (isStr (aq cs (aB i*1))&&true)
 (.call ⟨73,[.p (.sc (.string (bg (aq cs (aB i*1)))))],[],.p (.sc (.bool ok)),[]⟩
 (.test (ok)
 (.out (.ret (sI .i64 (↑i:Int)) []))
 (.at (ah ae env 110 0 [.p (.ps k 1 cs),.fn (ajv 73) [] [],sI .i64 (↑k:Int),sI .i64 (re.wrap ((↑i:Int)+1))] ([]) 0 19))))))
 (.out (.ret (sI .i64 (-1)) [])))
theorem FV (k:Nat) (i:Nat) (cs:List PV) (ok:Bool):grow ae env (aaO k i cs ok) 1000000 true (ah ae env 110 0 ([AV.p (PV.ps k 1 cs),AV.fn (ajv 73) [] [],sI re (↑k:Int),sI re (↑i:Int)]) ([]) 0 19) agw atEnd=DI k i cs ok:=by kernel_rfl
def U4:bA:=aM aE aC [(111,0)] [] []
def aaP:Sc:= .fin
def Qn (k:Nat) (cs:List PV):aA:=
 (.at (ah ae env 111 0 [.p (.ps k 2 cs),.fn (ajv 66) [] [],sI .i64 (↑k:Int),sI .i64 0] ([]) 0 19))
theorem Ms (k:Nat) (cs:List PV):aI ae env U4 1000000 111 ([AV.p (PV.ps k 2 cs),AV.fn (ajv 66) [] []]) ([]) aaP=Qn k cs:=by kernel_rfl
def aaQ (k:Nat) (i:Nat) (cs:List PV) (ok:Bool):bA:=aM (ala k i cs ok) aC [(111,0)] [(111,0,1),(111,0,2)] [(111,5,3),(111,5,4)]
def agx:Sc:= .fin
def DJ (k:Nat) (i:Nat) (cs:List PV) (ok:Bool):aA:=
 (.test (decide ((↑i:Int)<(↑k:Int)))
 (.must (aP (↑i:Int) k&&true&&true)
 (.must (isInt re (aq cs (aB i*2))&&(isInt re (aq cs (aB i*2+1))&&true)&&true)
 (.call ⟨66,[.agg [sI .i64 (au (aq cs (aB i*2))),sI .i64 (au (aq cs (aB i*2+1)))]],[],.p (.sc (.bool ok)),[]⟩
 (.test (ok)
 (.out (.ret (sI .i64 (↑i:Int)) []))
 (.at (ah ae env 111 0 [.p (.ps k 2 cs),.fn (ajv 66) [] [],sI .i64 (↑k:Int),sI .i64 (re.wrap ((↑i:Int)+1))] ([]) 0 19))))))
 (.out (.ret (sI .i64 (-1)) [])))
theorem FW (k:Nat) (i:Nat) (cs:List PV) (ok:Bool):grow ae env (aaQ k i cs ok) 1000000 true (ah ae env 111 0 ([AV.p (PV.ps k 2 cs),AV.fn (ajv 66) [] [],sI re (↑k:Int),sI re (↑i:Int)]) ([]) 0 19) agx atEnd=DJ k i cs ok:=by kernel_rfl
def U5:bA:=aM aE aC [(112,0)] [] []
def aaR:Sc:= .fin
def Qo (k:Nat) (cs:List PV):aA:=
 (.at (ah ae env 112 0 [.p (.ps k 3 cs),.fn (ajv 69) [] [],sI .i64 (↑k:Int),sI .i64 0] ([]) 0 19))
theorem Mt (k:Nat) (cs:List PV):aI ae env U5 1000000 112 ([AV.p (PV.ps k 3 cs),AV.fn (ajv 69) [] []]) ([]) aaR=Qo k cs:=by kernel_rfl
def aaS (k:Nat) (i:Nat) (cs:List PV) (ok:Bool):bA:=aM (alb k i cs ok) aC [(112,0)] [(112,0,1),(112,0,2)] [(112,5,3),(112,5,4)]
def agy:Sc:= .fin
def DK (k:Nat) (i:Nat) (cs:List PV) (ok:Bool):aA:=
 (.test (decide ((↑i:Int)<(↑k:Int)))
 (.must (aP (↑i:Int) k&&true&&true)
 (.must (isStr (aq cs (aB i*3))&&(isStr (aq cs (aB i*3+1))&&(isInt re (aq cs (aB i*3+1+1))&&true))&&true)
 (.call ⟨69,[.agg [.p (.sc (.string (bg (aq cs (aB i*3))))),.p (.sc (.string (bg (aq cs (aB i*3+1))))),sI .i64 (au (aq cs (aB i*3+1+1)))]],[],.p (.sc (.bool ok)),[]⟩
 (.test (ok)
 (.out (.ret (sI .i64 (↑i:Int)) []))
 (.at (ah ae env 112 0 [.p (.ps k 3 cs),.fn (ajv 69) [] [],sI .i64 (↑k:Int),sI .i64 (re.wrap ((↑i:Int)+1))] ([]) 0 19))))))
 (.out (.ret (sI .i64 (-1)) [])))
theorem FX (k:Nat) (i:Nat) (cs:List PV) (ok:Bool):grow ae env (aaS k i cs ok) 1000000 true (ah ae env 112 0 ([AV.p (PV.ps k 3 cs),AV.fn (ajv 69) [] [],sI re (↑k:Int),sI re (↑i:Int)]) ([]) 0 19) agy atEnd=DK k i cs ok:=by kernel_rfl
def U6:bA:=aM aE aC [(113,0)] [] []
def aaT:Sc:= .fin
def Qp (k:Nat) (cs:List PV):aA:=
 (.at (ah ae env 113 0 [.p (.ps k 3 cs),.fn (ajv 72) [] [],sI .i64 (↑k:Int),sI .i64 0] ([]) 0 19))
theorem Mu (k:Nat) (cs:List PV):aI ae env U6 1000000 113 ([AV.p (PV.ps k 3 cs),AV.fn (ajv 72) [] []]) ([]) aaT=Qp k cs:=by kernel_rfl
def aaU (k:Nat) (i:Nat) (cs:List PV) (ok:Bool):bA:=aM (alc k i cs ok) aC [(113,0)] [(113,0,1),(113,0,2)] [(113,5,3),(113,5,4)]
def agz:Sc:= .fin
def DL (k:Nat) (i:Nat) (cs:List PV) (ok:Bool):aA:=
 (.test (decide ((↑i:Int)<(↑k:Int)))
 (.must (aP (↑i:Int) k&&true&&true)
 (.must (isInt re (aq cs (aB i*3))&&(isInt re (aq cs (aB i*3+1))&&(aO (aq cs (aB i*3+1+1))&&true))&&true)
 (.call ⟨72,[.agg [sI .i64 (au (aq cs (aB i*3))),sI .i64 (au (aq cs (aB i*3+1))),.p (.ps (an (aq cs (aB i*3+1+1))) (aD (aq cs (aB i*3+1+1))) (ak (aq cs (aB i*3+1+1))))]],[],.p (.sc (.bool ok)),[]⟩
 (.test (ok)
 (.out (.ret (sI .i64 (↑i:Int)) []))
 (.at (ah ae env 113 0 [.p (.ps k 3 cs),.fn (ajv 72) [] [],sI .i64 (↑k:Int),sI .i64 (re.wrap ((↑i:Int)+1))] ([]) 0 19))))))
 (.out (.ret (sI .i64 (-1)) [])))
theorem FY (k:Nat) (i:Nat) (cs:List PV) (ok:Bool):grow ae env (aaU k i cs ok) 1000000 true (ah ae env 113 0 ([AV.p (PV.ps k 3 cs),AV.fn (ajv 72) [] [],sI re (↑k:Int),sI re (↑i:Int)]) ([]) 0 19) agz atEnd=DL k i cs ok:=by kernel_rfl
def U7:bA:=aM aE aC [(115,0)] [] []
def aaV:Sc:= .fin
def Qq (k:Nat) (cs:List PV):aA:=
 (.at (ah ae env 115 0 [.p (.ps k 3 cs),.fn (ajv 76) [] [],sI .i64 (↑k:Int),sI .i64 0] ([]) 0 19))
theorem Mv (k:Nat) (cs:List PV):aI ae env U7 1000000 115 ([AV.p (PV.ps k 3 cs),AV.fn (ajv 76) [] []]) ([]) aaV=Qq k cs:=by kernel_rfl
def aaW (k:Nat) (i:Nat) (cs:List PV) (ok:Bool):bA:=aM (ald k i cs ok) aC [(115,0)] [(115,0,1),(115,0,2)] [(115,5,3),(115,5,4)]
def agA:Sc:= .fin
def DM (k:Nat) (i:Nat) (cs:List PV) (ok:Bool):aA:=
 (.test (decide ((↑i:Int)<(↑k:Int)))
 (.must (aP (↑i:Int) k&&true&&true)
 (.must (isInt aeG (aq cs (aB i*3))&&(isInt aeG (aq cs (aB i*3+1))&&(isBool (aq cs (aB i*3+1+1))&&true))&&true)
 (.call ⟨76,[.agg [sI .u32 (au (aq cs (aB i*3))),sI .u32 (au (aq cs (aB i*3+1))),.p (.sc (.bool (bf (aq cs (aB i*3+1+1)))))]],[],.p (.sc (.bool ok)),[]⟩
 (.test (ok)
 (.out (.ret (sI .i64 (↑i:Int)) []))
 (.at (ah ae env 115 0 [.p (.ps k 3 cs),.fn (ajv 76) [] [],sI .i64 (↑k:Int),sI .i64 (re.wrap ((↑i:Int)+1))] ([]) 0 19))))))
 (.out (.ret (sI .i64 (-1)) [])))
theorem F0 (k:Nat) (i:Nat) (cs:List PV) (ok:Bool):grow ae env (aaW k i cs ok) 1000000 true (ah ae env 115 0 ([AV.p (PV.ps k 3 cs),AV.fn (ajv 76) [] [],sI re (↑k:Int),sI re (↑i:Int)]) ([]) 0 19) agA atEnd=DM k i cs ok:=by kernel_rfl
def U8:bA:=aM aE aC [(115,0)] [] []
def aaX:Sc:= .fin
def Qr (k:Nat) (cs:List PV):aA:=
 (.at (ah ae env 115 0 [.p (.ps k 3 cs),.fn (ajv 78) [] [],sI .i64 (↑k:Int),sI .i64 0] ([]) 0 19))
theorem Mw (k:Nat) (cs:List PV):aI ae env U8 1000000 115 ([AV.p (PV.ps k 3 cs),AV.fn (ajv 78) [] []]) ([]) aaX=Qr k cs:=by kernel_rfl
def aaY (k:Nat) (i:Nat) (cs:List PV) (ok:Bool):bA:=aM (ale k i cs ok) aC [(115,0)] [(115,0,1),(115,0,2)] [(115,5,3),(115,5,4)]
def agB:Sc:= .fin
def DN (k:Nat) (i:Nat) (cs:List PV) (ok:Bool):aA:=
 (.test (decide ((↑i:Int)<(↑k:Int)))
 (.must (aP (↑i:Int) k&&true&&true)
 (.must (isInt aeG (aq cs (aB i*3))&&(isInt aeG (aq cs (aB i*3+1))&&(isBool (aq cs (aB i*3+1+1))&&true))&&true)
 (.call ⟨78,[.agg [sI .u32 (au (aq cs (aB i*3))),sI .u32 (au (aq cs (aB i*3+1))),.p (.sc (.bool (bf (aq cs (aB i*3+1+1)))))]],[],.p (.sc (.bool ok)),[]⟩
 (.test (ok)
 (.out (.ret (sI .i64 (↑i:Int)) []))
 (.at (ah ae env 115 0 [.p (.ps k 3 cs),.fn (ajv 78) [] [],sI .i64 (↑k:Int),sI .i64 (re.wrap ((↑i:Int)+1))] ([]) 0 19))))))
 (.out (.ret (sI .i64 (-1)) [])))
theorem F1 (k:Nat) (i:Nat) (cs:List PV) (ok:Bool):grow ae env (aaY k i cs ok) 1000000 true (ah ae env 115 0 ([AV.p (PV.ps k 3 cs),AV.fn (ajv 78) [] [],sI re (↑k:Int),sI re (↑i:Int)]) ([]) 0 19) agB atEnd=DN k i cs ok:=by kernel_rfl
def U9:bA:=aM aE aC [(116,0)] [] []
def aaZ:Sc:= .fin
def Qs (k:Nat) (cs:List PV):aA:=
 (.at (ah ae env 116 0 [.p (.ps k 3 cs),.fn (ajv 80) [] [],sI .i64 (↑k:Int),sI .i64 0] ([]) 0 19))
theorem Mx (k:Nat) (cs:List PV):aI ae env U9 1000000 116 ([AV.p (PV.ps k 3 cs),AV.fn (ajv 80) [] []]) ([]) aaZ=Qs k cs:=by kernel_rfl
def aa0 (k:Nat) (i:Nat) (cs:List PV) (ok:Bool):bA:=aM (alf k i cs ok) aC [(116,0)] [(116,0,1),(116,0,2)] [(116,5,3),(116,5,4)]
def agC:Sc:= .fin
def DO (k:Nat) (i:Nat) (cs:List PV) (ok:Bool):aA:=
 (.test (decide ((↑i:Int)<(↑k:Int)))
 (.must (aP (↑i:Int) k&&true&&true)
 (.must (isStr (aq cs (aB i*3))&&(isInt re (aq cs (aB i*3+1))&&(isInt aeG (aq cs (aB i*3+1+1))&&true))&&true)
 (.call ⟨80,[.agg [.p (.sc (.string (bg (aq cs (aB i*3))))),sI .i64 (au (aq cs (aB i*3+1))),sI .u32 (au (aq cs (aB i*3+1+1)))]],[],.p (.sc (.bool ok)),[]⟩
 (.test (ok)
 (.out (.ret (sI .i64 (↑i:Int)) []))
 (.at (ah ae env 116 0 [.p (.ps k 3 cs),.fn (ajv 80) [] [],sI .i64 (↑k:Int),sI .i64 (re.wrap ((↑i:Int)+1))] ([]) 0 19))))))
 (.out (.ret (sI .i64 (-1)) [])))
theorem F2 (k:Nat) (i:Nat) (cs:List PV) (ok:Bool):grow ae env (aa0 k i cs ok) 1000000 true (ah ae env 116 0 ([AV.p (PV.ps k 3 cs),AV.fn (ajv 80) [] [],sI re (↑k:Int),sI re (↑i:Int)]) ([]) 0 19) agC atEnd=DO k i cs ok:=by kernel_rfl
def aa1 (k:Nat) (cs:List PV) (r:Int):bA:=aM (alg k cs r) aC [] [] []
def agD:Sc:= .fin
def Ks (k:Nat) (cs:List PV) (r:Int):aA:=
 (.call ⟨107,[.p (.ps k 2 cs),.fn (ajv 60) [] []],[],sI .i64 r,[]⟩
 (.out (.ret (.p (.sc (.bool (decide (r≥0))))) [])))
theorem Qt (k:Nat) (cs:List PV) (r:Int):aI ae env (aa1 k cs r) 1000000 59 ([AV.p (PV.ps k 2 cs),AV.fn (ajv 60) [] []]) ([]) agD=Ks k cs r:=by kernel_rfl
def aa2 (k:Nat) (cs:List PV) (r:Int):bA:=aM (alh k cs r) aC [] [] []
def agE:Sc:= .fin
def Kt (k:Nat) (cs:List PV) (r:Int):aA:=
 (.call ⟨110,[.p (.ps k 1 cs),.fn (ajv 64) [] []],[],sI .i64 r,[]⟩
 (.out (.ret (.p (.sc (.bool (decide (r≥0))))) [])))
theorem Qu (k:Nat) (cs:List PV) (r:Int):aI ae env (aa2 k cs r) 1000000 62 ([AV.p (PV.ps k 1 cs),AV.fn (ajv 64) [] []]) ([]) agE=Kt k cs r:=by kernel_rfl
def aa3 (k:Nat) (cs:List PV) (r:Int):bA:=aM (ali k cs r) aC [] [] []
def agF:Sc:= .fin
def Ku (k:Nat) (cs:List PV) (r:Int):aA:=
 (.call ⟨110,[.p (.ps k 1 cs),.fn (ajv 73) [] []],[],sI .i64 r,[]⟩
 (.out (.ret (.p (.sc (.bool (decide (r≥0))))) [])))
theorem Qv (k:Nat) (cs:List PV) (r:Int):aI ae env (aa3 k cs r) 1000000 62 ([AV.p (PV.ps k 1 cs),AV.fn (ajv 73) [] []]) ([]) agF=Ku k cs r:=by kernel_rfl
def aa4 (k:Nat) (cs:List PV) (r:Int):bA:=aM (alj k cs r) aC [] [] []
def agG:Sc:= .fin
def Kv (k:Nat) (cs:List PV) (r:Int):aA:=
 (.call ⟨111,[.p (.ps k 2 cs),.fn (ajv 66) [] []],[],sI .i64 r,[]⟩
 (.out (.ret (.p (.sc (.bool (decide (r≥0))))) [])))
theorem Qw (k:Nat) (cs:List PV) (r:Int):aI ae env (aa4 k cs r) 1000000 65 ([AV.p (PV.ps k 2 cs),AV.fn (ajv 66) [] []]) ([]) agG=Kv k cs r:=by kernel_rfl
def aa5 (k:Nat) (cs:List PV) (r:Int):bA:=aM (alk k cs r) aC [] [] []
def agH:Sc:= .fin
def Kw (k:Nat) (cs:List PV) (r:Int):aA:=
 (.call ⟨112,[.p (.ps k 3 cs),.fn (ajv 69) [] []],[],sI .i64 r,[]⟩
 (.out (.ret (.p (.sc (.bool (decide (r≥0))))) [])))
theorem Qx (k:Nat) (cs:List PV) (r:Int):aI ae env (aa5 k cs r) 1000000 68 ([AV.p (PV.ps k 3 cs),AV.fn (ajv 69) [] []]) ([]) agH=Kw k cs r:=by kernel_rfl
def aa6 (k:Nat) (cs:List PV) (r:Int):bA:=aM (alm k cs r) aC [] [] []
def agI:Sc:= .fin
def Kx (k:Nat) (cs:List PV) (r:Int):aA:=
 (.call ⟨113,[.p (.ps k 3 cs),.fn (ajv 72) [] []],[],sI .i64 r,[]⟩
 (.out (.ret (.p (.sc (.bool (decide (r≥0))))) [])))
theorem Qy (k:Nat) (cs:List PV) (r:Int):aI ae env (aa6 k cs r) 1000000 71 ([AV.p (PV.ps k 3 cs),AV.fn (ajv 72) [] []]) ([]) agI=Kx k cs r:=by kernel_rfl
def aa7 (k:Nat) (cs:List PV) (r:Int):bA:=aM (aln k cs r) aC [] [] []
def agJ:Sc:= .fin
def Ky (k:Nat) (cs:List PV) (r:Int):aA:=
 (.call ⟨115,[.p (.ps k 3 cs),.fn (ajv 76) [] []],[],sI .i64 r,[]⟩
 (.out (.ret (.p (.sc (.bool (decide (r≥0))))) [])))
theorem Qz (k:Nat) (cs:List PV) (r:Int):aI ae env (aa7 k cs r) 1000000 75 ([AV.p (PV.ps k 3 cs),AV.fn (ajv 76) [] []]) ([]) agJ=Ky k cs r:=by kernel_rfl
def aa8 (k:Nat) (cs:List PV) (r:Int):bA:=aM (alo k cs r) aC [] [] []
def agK:Sc:= .fin
def Kz (k:Nat) (cs:List PV) (r:Int):aA:=
 (.call ⟨115,[.p (.ps k 3 cs),.fn (ajv 78) [] []],[],sI .i64 r,[]⟩
 (.out (.ret (.p (.sc (.bool (decide (r≥0))))) [])))
theorem QA (k:Nat) (cs:List PV) (r:Int):aI ae env (aa8 k cs r) 1000000 75 ([AV.p (PV.ps k 3 cs),AV.fn (ajv 78) [] []]) ([]) agK=Kz k cs r:=by kernel_rfl
def aa9 (k:Nat) (cs:List PV) (r:Int):bA:=aM (alp k cs r) aC [] [] []
def agL:Sc:= .fin
def KA (k:Nat) (cs:List PV) (r:Int):aA:=
 (.call ⟨116,[.p (.ps k 3 cs),.fn (ajv 80) [] []],[],sI .i64 r,[]⟩
 (.out (.ret (.p (.sc (.bool (decide (r≥0))))) [])))
theorem QB (k:Nat) (cs:List PV) (r:Int):aI ae env (aa9 k cs r) 1000000 79 ([AV.p (PV.ps k 3 cs),AV.fn (ajv 80) [] []]) ([]) agL=KA k cs r:=by kernel_rfl
def aba:bA:=aM aE aC [] [(67,0,0)] []
def agM:Sc:= .fin
def KB (p r:Int):aA:=
 (.test (!(fun r=>(p==bif true then ae4 (bif false then ae4 p 0 else afg p 0) 255 else afg (bif false then ae4 p 0 else afg p 0) 255)&&r) ((fun r_1=>(r==bif true then ae4 (bif false then ae4 r 0 else afg r 0) 1 else afg (bif false then ae4 r 0 else afg r 0) 1)&&r_1) true))
 (.out (.ret (sI .i64 2) []))
 (.out (.ret (sI .i64 0) [])))
theorem QC (p r:Int):aI ae env aba 1000000 67 ([AV.agg [sI re p,sI re r]]) ([]) agM=KB p r:=by kernel_rfl
def abb:bA:=aM aE aC [] [(77,2,5),(77,2,8),(77,2,14),(77,2,22),(77,2,26),(77,0,0)] []
def agN:Sc:=(.fork (.lit (.lit .fin)) (.fork (.fork (.lit (.lit .fin)) (.fork (.lit .fin) (.no (.lit .fin)))) (.lit (.yes .fin))))
def KC (mn mx:Int) (cap:Bool) (most:Int):aA:=
 (.test (decide (mn>most))
 (.out (.ret (sI .i64 2) []))
 (.test (cap)
 (.test (decide (mx<mn))
 (.out (.ret (sI .i64 2) []))
 (.test (decide (mx>most))
 (.out (.ret (sI .i64 2) []))
 (.must (!(!cap))
 (.out (.ret (sI .i64 0) [])))))
 (.must (!cap)
 (.test (mx != 0)
 (.out (.ret (sI .i64 2) []))
 (.out (.ret (sI .i64 0) []))))))
theorem QD (mn mx:Int) (cap:Bool) (most:Int):aI ae env abb 1000000 77 ([AV.agg [sI aeG mn,sI aeG mx,sB cap],sI aeG most]) ([]) agN=KC mn mx cap most:=by kernel_rfl
def abc:bA:=aM aE aC [] [] []
def agO:Sc:= .fin
def Va (x:El):aA:=
 (.out (.ret (.p (.sc (.bool (decide ((↑x.fs.length:Int)>16384))))) []))
theorem QE (x:El):aI ae env abc 1000000 60 ([AV.agg (aeM AV.p (aN x))]) ([]) agO=Va x:=by kernel_rfl
def abd:bA:=aM aE aC [] [] []
def agP:Sc:= .fin
def Vb (s:ByteArray):aA:=
 (.out (.ret (.p (.sc (.bool (decide ((↑s.data.toList.length:Int)>1000))))) []))
theorem QF (s:ByteArray):aI ae env abd 1000000 64 ([AV.p (PV.sc (Value.string s))]) ([]) agP=Vb s:=by kernel_rfl
def abe (s:ByteArray) (r:Int):bA:=aM (alq s r) aC [] [] []
def agQ:Sc:= .fin
def Vc (s:ByteArray) (r:Int):aA:=
 (.call ⟨74,[.os (some 0) s.data.toList.length 1 (aeM eE s.data.toList)],[.tok],sI .i64 r,[.tok]⟩
 (.out (.ret (.p (.sc (.bool (decide (r≥0))))) [])))
theorem QG (s:ByteArray) (r:Int):aI ae env (abe s r) 1000000 73 ([AV.p (PV.sc (Value.string s))]) ([]) agQ=Vc s r:=by kernel_rfl
def abf (x:Ty) (e:Int):bA:=aM (alr x e) aC [] [] []
def agR:Sc:= .fin
def Vd (x:Ty) (e:Int):aA:=
 (.call ⟨67,[.agg [sI .i64 x.p,sI .i64 x.r]],[],sI .i64 e,[]⟩
 (.out (.ret (.p (.sc (.bool (e != 0)))) [])))
theorem QH (x:Ty) (e:Int):aI ae env (abf x e) 1000000 66 ([AV.agg (aeM AV.p (bK x))]) ([]) agR=Vd x e:=by kernel_rfl
def abg:bA:=aM aE aC [] [(70,2,3)] []
def agS:Sc:= .fin
def KD (x:Im):aA:=
 (.test (decide (x.ty≥0))
 (.out (.ret (.p (.sc (.bool !decide (x.ty≤2147483647)))) []))
 gj)
theorem QI (x:Im):aI ae env abg 1000000 69 ([AV.agg (aeM AV.p (bh x))]) ([]) agS=KD x:=by kernel_rfl
def abh (x:Li) (e:Int):bA:=aM (agt x e) aC [] [] []
def agT:Sc:= .fin
def Ve (x:Li) (e:Int):aA:=
 (.call ⟨77,[.agg [sI .u32 x.mn,sI .u32 x.mx,.p (.sc (.bool x.cap))],sI .u32 1048576],[],sI .i64 e,[]⟩
 (.out (.ret (.p (.sc (.bool (e != 0)))) [])))
theorem QJ (x:Li) (e:Int):aI ae env (abh x e) 1000000 76 ([AV.agg (aeM AV.p (aF x))]) ([]) agT=Ve x e:=by kernel_rfl
def abi (x:Li) (e:Int):bA:=aM (agt x e) aC [] [] []
def agU:Sc:= .fin
def Vf (x:Li) (e:Int):aA:=
 (.call ⟨77,[.agg [sI .u32 x.mn,sI .u32 x.mx,.p (.sc (.bool x.cap))],sI .u32 65536],[],sI .i64 e,[]⟩
 (.out (.ret (.p (.sc (.bool (e != 0)))) [])))
theorem QK (x:Li) (e:Int):aI ae env (abi x e) 1000000 78 ([AV.agg (aeM AV.p (aF x))]) ([]) agU=Vf x e:=by kernel_rfl
def abj:bA:=aM aE aC [] [(80,2,4)] []
def agV:Sc:= .fin
def KE (x:Ex):aA:=
 (.test (decide (x.kind<0))
 gj
 (.out (.ret (.p (.sc (.bool (decide (x.kind>3))))) [])))
theorem QL (x:Ex):aI ae env abj 1000000 80 ([AV.agg (aeM AV.p (bu x))]) ([]) agV=KE x:=by kernel_rfl
def abk:bA:=aM aE aC [] [(70,2,3),(72,2,5),(72,2,11)] []
def agW:Sc:=(.fork (.fork (.lit .fin) .fin) (.lit (.lit .fin)))
def KF (x:Fu):aA:=
 (.test (decide (x.ty≥0))
 (.test (!decide (x.ty≤2147483647))
 gj
 (.test (decide (x.lo<0))
 gj
 (.out (.ret (.p (.sc (.bool (decide (x.lo>50000))))) []))))
 gj)
theorem QM (x:Fu):aI ae env abk 1000000 72 ([AV.agg (aeM AV.p (aG x))]) ([]) agW=KF x:=by kernel_rfl
def abl (M:Mo) (e:Int) (n:Nat) (cs:List PV):bA:=aM (liC M e n cs) aC [(61,0)] [] []
def agX:Sc:= .fin
def Vg (M:Mo) (e:Int) (n:Nat) (cs:List PV):aA:=
 (.call ⟨108,[.agg (aeM AV.p M.aJ)],[],.p (.ps n 1 cs),[]⟩
 (.at (ah ae env 61 0 [sI .i64 e,.p (.ps n 1 cs),sI .i64 (↑n:Int),sI .i64 0] ([]) 0 20)))
theorem QO (M:Mo) (e:Int) (n:Nat) (cs:List PV):aI ae env (abl M e n cs) 1000000 61 ([AV.agg (aeM AV.p M.aJ),sI re e]) ([]) agX=Vg M e n cs:=by kernel_rfl
def abm (e:Int) (k:Nat) (i:Nat) (cs:List PV) (r:Int):bA:=aM (als e k i cs r) aC [(61,0)] [(61,0,1),(61,0,2)] [(61,4,0),(61,4,1)]
def agY:Sc:= .fin
def DP (e:Int) (k:Nat) (i:Nat) (cs:List PV) (r:Int):aA:=
 (.test (decide ((↑i:Int)<(↑k:Int)))
 (.must (aP (↑i:Int) k&&true&&true)
 (.must (aO (aq cs (aB i*1))&&true)
 (.call ⟨109,[.p (.ps (an (aq cs (aB i*1))) (aD (aq cs (aB i*1))) (ak (aq cs (aB i*1))))],[],sI .i64 r,[]⟩
 (.test (r==e)
 (.out (.ret (sI .i64 e) []))
 (.at (ah ae env 61 0 [sI .i64 e,.p (.ps k 1 cs),sI .i64 (↑k:Int),sI .i64 (re.wrap ((↑i:Int)+1))] ([]) 0 20))))))
 (.out (.ret (sI .i64 0) [])))
theorem F3 (e:Int) (k:Nat) (i:Nat) (cs:List PV) (r:Int):grow ae env (abm e k i cs r) 1000000 true (ah ae env 61 0 ([sI re e,AV.p (PV.ps k 1 cs),sI re (↑k:Int),sI re (↑i:Int)]) ([]) 0 20) agY atEnd=DP e k i cs r:=by kernel_rfl
def abn:bA:=aM aE aC [(32,0)] [] []
def agZ:Sc:= .fin
def Vh (M:Mo):aA:=
 (.at (ah ae env 32 0 [.mp 0 0,sI .i64 1048576,.p (.ps M.bp.length 2 (ajO aZ M.bp)),sI .i64 (↑M.bp.length:Int),sI .i64 0] ([.pc M.aJ]) 0 29))
theorem QS (M:Mo):aI ae env abn 1000000 32 ([AV.agg (aeM AV.p M.aJ)]) ([]) agZ=Vh M:=by kernel_rfl
def abo (M:Mo) (k:Nat) (i:Nat) (left:Int) (cs:List PV) (n:Nat) (ns:List PV) (lg:Bool):bA:=aM (loC M k i left cs n ns lg) aC [(32,0)] [(32,0,1),(32,8,3),(32,0,2)] [(32,5,0),(32,5,1)]
def ag0:Sc:=(.fork .fin (.fork (.lit .fin) .fin))
def DQ (M:Mo) (k:Nat) (i:Nat) (left:Int) (cs:List PV) (n:Nat) (ns:List PV) (lg:Bool):aA:=
 (.test (decide ((↑i:Int)<(↑k:Int)))
 (.must (aP (↑i:Int) k&&true&&true)
 (.must (aO (aq cs (aB i*2))&&(aO (aq cs (aB i*2+1))&&true)&&true)
 (.at (ah ae env 32 0 [.mp 0 0,sI .i64 (re.wrap (left-bif true then ae4 (↑(an (aq cs (aB i*2+1))):Int) (re.wrap (left+1)) else afg (↑(an (aq cs (aB i*2+1))):Int) (re.wrap (left+1)))),.p (.ps k 2 cs),sI .i64 (↑k:Int),sI .i64 (re.wrap ((↑i:Int)+1))] ([.pc M.aJ]) 0 29))))
 (.test (decide (left<0))
 (.out (.ret (sI .i64 3) []))
 (.call ⟨63,[.agg (aeM AV.p M.aJ)],[],.p (.ps n 1 ns),[]⟩
 (.call ⟨62,[.p (.ps n 1 ns),.fn (ajv 64) [] []],[],.p (.sc (.bool lg)),[]⟩
 (.test (lg)
 (.out (.ret (sI .i64 3) []))
 (.out (.ret (sI .i64 0) [])))))))
theorem F4 (M:Mo) (k:Nat) (i:Nat) (left:Int) (cs:List PV) (n:Nat) (ns:List PV) (lg:Bool):grow ae env (abo M k i left cs n ns lg) 1000000 true (ah ae env 32 0 ([AV.mp 0 0,sI re left,AV.p (PV.ps k 2 cs),sI re (↑k:Int),sI re (↑i:Int)]) ([bq.pc M.aJ]) 0 29) ag0 atEnd=DQ M k i left cs n ns lg:=by kernel_rfl
def abp (M:Mo) (b:Bool) (e:Int):bA:=aM (maC M b e) aC [] [(31,3,5),(31,3,11),(31,3,15),(31,0,0)] []
def ag1:Sc:=(.fork (.lit (.lit (.lit .fin))) (.fork (.lit (.lit .fin)) (.fork (.lit .fin) .fin)))
def KG (M:Mo) (b:Bool) (e:Int):aA:=
 (.test (decide ((↑M.b8.length:Int)>1))
 (.out (.ret (sI .i64 141) []))
 (.test (decide ((↑M.b9.length:Int)>1))
 (.out (.ret (sI .i64 141) []))
 (.test (decide ((bif false then ae4 (bif false then ae4 (bif false then ae4 (bif false then ae4 (bif false then ae4 (bif false then ae4 (↑M.tys.length:Int) (↑M.aX.length:Int) else afg (↑M.tys.length:Int) (↑M.aX.length:Int)) (↑M.fns.length:Int) else afg (bif false then ae4 (↑M.tys.length:Int) (↑M.aX.length:Int) else afg (↑M.tys.length:Int) (↑M.aX.length:Int)) (↑M.fns.length:Int)) (↑M.gls.length:Int) else afg (bif false then ae4 (bif false then ae4 (↑M.tys.length:Int) (↑M.aX.length:Int) else afg (↑M.tys.length:Int) (↑M.aX.length:Int)) (↑M.fns.length:Int) else afg (bif false then ae4 (↑M.tys.length:Int) (↑M.aX.length:Int) else afg (↑M.tys.length:Int) (↑M.aX.length:Int)) (↑M.fns.length:Int)) (↑M.gls.length:Int)) (↑M.exs.length:Int) else afg (bif false then ae4 (bif false then ae4 (bif false then ae4 (↑M.tys.length:Int) (↑M.aX.length:Int) else afg (↑M.tys.length:Int) (↑M.aX.length:Int)) (↑M.fns.length:Int) else afg (bif false then ae4 (↑M.tys.length:Int) (↑M.aX.length:Int) else afg (↑M.tys.length:Int) (↑M.aX.length:Int)) (↑M.fns.length:Int)) (↑M.gls.length:Int) else afg (bif false then ae4 (bif false then ae4 (↑M.tys.length:Int) (↑M.aX.length:Int) else afg (↑M.tys.length:Int) (↑M.aX.length:Int)) (↑M.fns.length:Int) else afg (bif false then ae4 (↑M.tys.length:Int) (↑M.aX.length:Int) else afg (↑M.tys.length:Int) (↑M.aX.length:Int)) (↑M.fns.length:Int)) (↑M.gls.length:Int)) (↑M.exs.length:Int)) (↑M.els.length:Int) else afg (bif false then ae4 (bif false then ae4 (bif false then ae4 (bif false then ae4 (↑M.tys.length:Int) (↑M.aX.length:Int) else afg (↑M.tys.length:Int) (↑M.aX.length:Int)) (↑M.fns.length:Int) else afg (bif false then ae4 (↑M.tys.length:Int) (↑M.aX.length:Int) else afg (↑M.tys.length:Int) (↑M.aX.length:Int)) (↑M.fns.length:Int)) (↑M.gls.length:Int) else afg (bif false then ae4 (bif false then ae4 (↑M.tys.length:Int) (↑M.aX.length:Int) else afg (↑M.tys.length:Int) (↑M.aX.length:Int)) (↑M.fns.length:Int) else afg (bif false then ae4 (↑M.tys.length:Int) (↑M.aX.length:Int) else afg (↑M.tys.length:Int) (↑M.aX.length:Int)) (↑M.fns.length:Int)) (↑M.gls.length:Int)) (↑M.exs.length:Int) else afg (bif false then ae4 (bif false then ae4 (bif false then ae4 (↑M.tys.length:Int) (↑M.aX.length:Int) else afg (↑M.tys.length:Int) (↑M.aX.length:Int)) (↑M.fns.length:Int) else afg (bif false then ae4 (↑M.tys.length:Int) (↑M.aX.length:Int) else afg (↑M.tys.length:Int) (↑M.aX.length:Int)) (↑M.fns.length:Int)) (↑M.gls.length:Int) else afg (bif false then ae4 (bif false then ae4 (↑M.tys.length:Int) (↑M.aX.length:Int) else afg (↑M.tys.length:Int) (↑M.aX.length:Int)) (↑M.fns.length:Int) else afg (bif false then ae4 (↑M.tys.length:Int) (↑M.aX.length:Int) else afg (↑M.tys.length:Int) (↑M.aX.length:Int)) (↑M.fns.length:Int)) (↑M.gls.length:Int)) (↑M.exs.length:Int)) (↑M.els.length:Int)) (↑M.bp.length:Int) else afg (bif false then ae4 (bif false then ae4 (bif false then ae4 (bif false then ae4 (bif false then ae4 (↑M.tys.length:Int) (↑M.aX.length:Int) else afg (↑M.tys.length:Int) (↑M.aX.length:Int)) (↑M.fns.length:Int) else afg (bif false then ae4 (↑M.tys.length:Int) (↑M.aX.length:Int) else afg (↑M.tys.length:Int) (↑M.aX.length:Int)) (↑M.fns.length:Int)) (↑M.gls.length:Int) else afg (bif false then ae4 (bif false then ae4 (↑M.tys.length:Int) (↑M.aX.length:Int) else afg (↑M.tys.length:Int) (↑M.aX.length:Int)) (↑M.fns.length:Int) else afg (bif false then ae4 (↑M.tys.length:Int) (↑M.aX.length:Int) else afg (↑M.tys.length:Int) (↑M.aX.length:Int)) (↑M.fns.length:Int)) (↑M.gls.length:Int)) (↑M.exs.length:Int) else afg (bif false then ae4 (bif false then ae4 (bif false then ae4 (↑M.tys.length:Int) (↑M.aX.length:Int) else afg (↑M.tys.length:Int) (↑M.aX.length:Int)) (↑M.fns.length:Int) else afg (bif false then ae4 (↑M.tys.length:Int) (↑M.aX.length:Int) else afg (↑M.tys.length:Int) (↑M.aX.length:Int)) (↑M.fns.length:Int)) (↑M.gls.length:Int) else afg (bif false then ae4 (bif false then ae4 (↑M.tys.length:Int) (↑M.aX.length:Int) else afg (↑M.tys.length:Int) (↑M.aX.length:Int)) (↑M.fns.length:Int) else afg (bif false then ae4 (↑M.tys.length:Int) (↑M.aX.length:Int) else afg (↑M.tys.length:Int) (↑M.aX.length:Int)) (↑M.fns.length:Int)) (↑M.gls.length:Int)) (↑M.exs.length:Int)) (↑M.els.length:Int) else afg (bif false then ae4 (bif false then ae4 (bif false then ae4 (bif false then ae4 (↑M.tys.length:Int) (↑M.aX.length:Int) else afg (↑M.tys.length:Int) (↑M.aX.length:Int)) (↑M.fns.length:Int) else afg (bif false then ae4 (↑M.tys.length:Int) (↑M.aX.length:Int) else afg (↑M.tys.length:Int) (↑M.aX.length:Int)) (↑M.fns.length:Int)) (↑M.gls.length:Int) else afg (bif false then ae4 (bif false then ae4 (↑M.tys.length:Int) (↑M.aX.length:Int) else afg (↑M.tys.length:Int) (↑M.aX.length:Int)) (↑M.fns.length:Int) else afg (bif false then ae4 (↑M.tys.length:Int) (↑M.aX.length:Int) else afg (↑M.tys.length:Int) (↑M.aX.length:Int)) (↑M.fns.length:Int)) (↑M.gls.length:Int)) (↑M.exs.length:Int) else afg (bif false then ae4 (bif false then ae4 (bif false then ae4 (↑M.tys.length:Int) (↑M.aX.length:Int) else afg (↑M.tys.length:Int) (↑M.aX.length:Int)) (↑M.fns.length:Int) else afg (bif false then ae4 (↑M.tys.length:Int) (↑M.aX.length:Int) else afg (↑M.tys.length:Int) (↑M.aX.length:Int)) (↑M.fns.length:Int)) (↑M.gls.length:Int) else afg (bif false then ae4 (bif false then ae4 (↑M.tys.length:Int) (↑M.aX.length:Int) else afg (↑M.tys.length:Int) (↑M.aX.length:Int)) (↑M.fns.length:Int) else afg (bif false then ae4 (↑M.tys.length:Int) (↑M.aX.length:Int) else afg (↑M.tys.length:Int) (↑M.aX.length:Int)) (↑M.fns.length:Int)) (↑M.gls.length:Int)) (↑M.exs.length:Int)) (↑M.els.length:Int)) (↑M.bp.length:Int))>16384))
 (.out (.ret (sI .i64 141) []))
 (.call ⟨59,[.p (.ps M.els.length 2 (ajO aN M.els)),.fn (ajv 60) [] []],[],.p (.sc (.bool b)),[]⟩
 (.test (b)
 (.out (.ret (sI .i64 141) []))
 (.call ⟨61,[.agg (aeM AV.p M.aJ),sI .i64 141],[],sI .i64 e,[]⟩
 (.out (.ret (sI .i64 e) []))))))))
theorem QT (M:Mo) (b:Bool) (e:Int):aI ae env (abp M b e) 1000000 31 ([AV.agg (aeM AV.p M.aJ)]) ([]) ag1=KG M b e:=by kernel_rfl
def abq:bA:=aM aE aC [] [(33,3,2),(33,4,2),(33,5,2),(33,6,2),(33,7,2),(33,8,2),(33,9,2),(33,9,6),(33,0,0)] []
def ag2 (M:Mo) (a:Bool) (b:Bool) (c:Bool) (d:Bool) (e:Bool) (f:Bool) (g:Bool) (n:Nat) (ns:List PV) (r:Int):Sc:=(.ans 65 (.p (.sc (.bool a))) ([]) (.fork (.lit (.lit (.lit (.lit (.lit (.lit (.lit .fin))))))) (.ans 68 (.p (.sc (.bool b))) ([]) (.fork (.lit (.lit (.lit (.lit (.lit (.lit .fin)))))) (.ans 71 (.p (.sc (.bool c))) ([]) (.fork (.lit (.lit (.lit (.lit (.lit .fin))))) (.ans 63 (.p (.ps n 1 ns)) ([]) (.ans 62 (.p (.sc (.bool d))) ([]) (.fork (.lit (.lit (.lit (.lit .fin)))) (.ans 75 (.p (.sc (.bool e))) ([]) (.fork (.lit (.lit (.lit .fin))) (.ans 75 (.p (.sc (.bool f))) ([]) (.fork (.lit (.lit .fin)) (.ans 79 (.p (.sc (.bool g))) ([]) (.fork (.lit .fin) (.fork (.fork .fin (.ans 61 (sI .i64 r) ([]) .fin)) (.lit (.ans 61 (sI .i64 r) ([]) .fin))))))))))))))))))
def gm:aA:=
 (.out (.ret (sI .i64 2) []))
def KH (M:Mo) (a:Bool) (b:Bool) (c:Bool) (d:Bool) (e:Bool) (f:Bool) (g:Bool) (n:Nat) (ns:List PV) (r:Int):aA:=
 (.call ⟨65,[.p (.ps M.tys.length 2 (ajO bK M.tys)),.fn (ajv 66) [] []],[],.p (.sc (.bool a)),[]⟩
 (.test (a)
 (gm)
 (.call ⟨68,[.p (.ps M.aX.length 3 (ajO bh M.aX)),.fn (ajv 69) [] []],[],.p (.sc (.bool b)),[]⟩
 (.test (b)
 (gm)
 (.call ⟨71,[.p (.ps M.fns.length 3 (ajO aG M.fns)),.fn (ajv 72) [] []],[],.p (.sc (.bool c)),[]⟩
 (.test (c)
 (gm)
 (.call ⟨63,[.agg (aeM AV.p M.aJ)],[],.p (.ps n 1 ns),[]⟩
 (.call ⟨62,[.p (.ps n 1 ns),.fn (ajv 73) [] []],[],.p (.sc (.bool d)),[]⟩
 (.test (d)
 (gm)
 (.call ⟨75,[.p (.ps M.b8.length 3 (ajO aF M.b8)),.fn (ajv 76) [] []],[],.p (.sc (.bool e)),[]⟩
 (.test (e)
 (gm)
 (.call ⟨75,[.p (.ps M.b9.length 3 (ajO aF M.b9)),.fn (ajv 78) [] []],[],.p (.sc (.bool f)),[]⟩
 (.test (f)
 (gm)
 (.call ⟨79,[.p (.ps M.exs.length 3 (ajO bu M.exs)),.fn (ajv 80) [] []],[],.p (.sc (.bool g)),[]⟩
 (.test (g)
 (gm)
 (.test (!M.st)
 (.test (M.sn != 0)
 (gm)
 (.call ⟨61,[.agg (aeM AV.p M.aJ),sI .i64 2],[],sI .i64 r,[]⟩
 (.out (.ret (sI .i64 r) []))))
 (.call ⟨61,[.agg (aeM AV.p M.aJ),sI .i64 2],[],sI .i64 r,[]⟩
 (.out (.ret (sI .i64 r) [])))))))))))))))))))
theorem QU (M:Mo) (a:Bool) (b:Bool) (c:Bool) (d:Bool) (e:Bool) (f:Bool) (g:Bool) (n:Nat) (ns:List PV) (r:Int):aI ae env abq 1000000 33 ([AV.agg (aeM AV.p M.aJ)]) ([]) (ag2 M a b c d e f g n ns r)=KH M a b c d e f g n ns r:=by kernel_rfl
def Vi (M:Mo) (a b c:Int):bA:=aM (mcC M a b c) aC [] [(17,0,2)] []
def abr:Sc:= .fin
def F5 (M:Mo) (a b c:Int):aA:=
 (.call ⟨31,[.agg (aeM AV.p M.aJ)],[],sI .i64 a,[]⟩
 (.test (a != 0)
 (.out (.ret (sI .i64 a) []))
 (.call ⟨32,[.agg (aeM AV.p M.aJ)],[],sI .i64 b,[]⟩
 (.test (b != 0)
 (.out (.ret (sI .i64 b) []))
 (.call ⟨33,[.agg (aeM AV.p M.aJ)],[],sI .i64 c,[]⟩
 (.test (c != 0)
 (.out (.ret (sI .i64 c) []))
 (.out (.ret (sI .i64 0) []))))))))
theorem My (M:Mo) (a b c:Int):aI ae env (Vi M a b c) 1000000 17 ([AV.agg (aeM AV.p M.aJ)]) ([]) abr=F5 M a b c:=by kernel_rfl
def jH {α:Type} (p:α→Bool):List α→Nat→Int
 |[],_=> -1
 |x::r,i=>if p x=true then i else jH p r (i+1)
theorem je {α:Type} (p:α→Bool) : ∀(l:List α) (i:Nat),decide (jH p l i≥0)=l.any p
 |[],_=>rfl
 |x::r,i=>by
  cases h:p x with
  |true=>simp[jH,h]
  |false=>simp only[jH,h,ajV,pb];exact je p r (i+1)
theorem jR {α:Type} {l:List α} {p:α→Bool} {D:Nat→cm}
  (step : ∀(i:Nat) (x:α) (o:Out),l[i]? = some x→(p x=true→Out.ret (sI .i64 i) []=o)→(p x=false→aU ae env (D (i+1)) o)→aU ae env (D i) o)
  (fin:aU ae env (D l.length) (.ret (sI .i64 (-1)) [])) :
  ∀(r i:Nat),i+r=l.length→aU ae env (D i) (.ret (sI .i64 (jH p (l.drop i) i)) []):=by
 intro r
 induction r with
 |zero=>
  intro i hi
  obtain rfl:i=l.length:=by omega
  rw[ajU]
  exact fin
 |succ r ih=>
  intro i hi
  have hl:i<l.length:=by omega
  rw[agj hl]
  refine step i l[i] _ (da hl) (fun q=> ?_) fun q=> ?_
  · simp only[jH,q,if_true]
  · simp only[jH,q,Bool.false_eq_true,if_false]
    exact ih (i+1) (by omega)
abbrev dW (s:ByteArray):List PV:=[.sc (.string s)]
abbrev F6 (l:List Ins):List PV:=[pL l]
theorem QV (l:List El) (hl:l.length≤10000000) (p:El→Bool) (hp : ∀x∈l,az ae env 60 [(.agg ((aN x).map .p))] [] (sB (p x)) []) :
  az ae env 107 [.p (.ps l.length 2 (l.flatMap aN)),.fn (.func 60) [] []] [] (sI .i64 (jH p l 0)) []:=by
 refine aa aH (Mp l.length (l.flatMap aN)) ?_
 refine jR (l:=l) (p:=p) (D:=fun i=>ah ae env 107 0 [.p (.ps l.length 2 (l.flatMap aN)),.fn (.func 60) [] [],sI .i64 l.length,sI .i64 i] [] 0 19) ?_ ?_ l.length 0 (by omega)
 · intro i x o hx h1 h2
   have hi:i<l.length:=(dT.1 hx).1
   have c:=aW (z:=2) (enc:=aN) (fun _=>rfl) hx
   have c0:(l.flatMap aN).getD (i*2) .bz=pL x.l:=c 0 (by decide)
   have c1:(l.flatMap aN).getD (i*2+1) .bz=pT .u32 x.fs:=c 1 (by decide)
   have w:re.wrap ((i:Int)+1)=((i+1:Nat):Int):=by rw[aQ (by omega) (by omega)];rfl
   have hd:decide ((i:Int)<(l.length:Int))=true:=by simp;omega
   refine af aH (FT l.length i (l.flatMap aN) (p x)) ?_
   simp only[DG,aV,aA.ok,isStr,isInt,aO,isBool,bg,au,bf,an,aD,ak,aP,afm,c0,c1,hd,w]
   exact⟨fun _=>⟨by first | (simp;done) | (simp;omega),rfl,hp x (mv hx),h1,h2⟩,fun q=>(by cases q)⟩
 · have hd:decide ((l.length:Int)<(l.length:Int))=false:=by simp
   refine af aH (FT l.length l.length (l.flatMap aN) true) ?_
   simp only[DG,aV,aA.ok,hd]
   exact⟨fun q=>(by cases q),fun _=>trivial⟩
theorem QW (l:List El) (hl:l.length≤10000000) (p:El→Bool) (hp : ∀x∈l,az ae env 60 [(.agg ((aN x).map .p))] [] (sB (p x)) []) :
  az ae env 59 [.p (.ps l.length 2 (l.flatMap aN)),.fn (.func 60) [] []] [] (sB (l.any p)) []:=by
 refine aa aH (Qt l.length (l.flatMap aN) (jH p l 0)) ?_
 simp only[Ks,aA.ok,je]
 exact⟨QV l hl p hp,trivial⟩
theorem QX (l:List ByteArray) (hl:l.length≤10000000) (p:ByteArray→Bool) (hp : ∀x∈l,az ae env 64 [(.p (.sc (.string x)))] [] (sB (p x)) []) :
  az ae env 110 [.p (.ps l.length 1 (l.flatMap dW)),.fn (.func 64) [] []] [] (sI .i64 (jH p l 0)) []:=by
 refine aa aH (Mq l.length (l.flatMap dW)) ?_
 refine jR (l:=l) (p:=p) (D:=fun i=>ah ae env 110 0 [.p (.ps l.length 1 (l.flatMap dW)),.fn (.func 64) [] [],sI .i64 l.length,sI .i64 i] [] 0 19) ?_ ?_ l.length 0 (by omega)
 · intro i x o hx h1 h2
   have hi:i<l.length:=(dT.1 hx).1
   have c:=aW (z:=1) (enc:=dW) (fun _=>rfl) hx
   have c0:(l.flatMap dW).getD (i*1) .bz = .sc (.string x):=c 0 (by decide)
   have w:re.wrap ((i:Int)+1)=((i+1:Nat):Int):=by rw[aQ (by omega) (by omega)];rfl
   have hd:decide ((i:Int)<(l.length:Int))=true:=by simp;omega
   refine af aH (FU l.length i (l.flatMap dW) (p x)) ?_
   simp only[DH,aV,aA.ok,isStr,isInt,aO,isBool,bg,au,bf,an,aD,ak,aP,afm,c0,hd,w]
   exact⟨fun _=>⟨by first | (simp;done) | (simp;omega),rfl,hp x (mv hx),h1,h2⟩,fun q=>(by cases q)⟩
 · have hd:decide ((l.length:Int)<(l.length:Int))=false:=by simp
   refine af aH (FU l.length l.length (l.flatMap dW) true) ?_
   simp only[DH,aV,aA.ok,hd]
   exact⟨fun q=>(by cases q),fun _=>trivial⟩
theorem QY (l:List ByteArray) (hl:l.length≤10000000) (p:ByteArray→Bool) (hp : ∀x∈l,az ae env 64 [(.p (.sc (.string x)))] [] (sB (p x)) []) :
  az ae env 62 [.p (.ps l.length 1 (l.flatMap dW)),.fn (.func 64) [] []] [] (sB (l.any p)) []:=by
 refine aa aH (Qu l.length (l.flatMap dW) (jH p l 0)) ?_
 simp only[Kt,aA.ok,je]
 exact⟨QX l hl p hp,trivial⟩
theorem QZ (l:List ByteArray) (hl:l.length≤10000000) (p:ByteArray→Bool) (hp : ∀x∈l,az ae env 73 [(.p (.sc (.string x)))] [] (sB (p x)) []) :
  az ae env 110 [.p (.ps l.length 1 (l.flatMap dW)),.fn (.func 73) [] []] [] (sI .i64 (jH p l 0)) []:=by
 refine aa aH (Mr l.length (l.flatMap dW)) ?_
 refine jR (l:=l) (p:=p) (D:=fun i=>ah ae env 110 0 [.p (.ps l.length 1 (l.flatMap dW)),.fn (.func 73) [] [],sI .i64 l.length,sI .i64 i] [] 0 19) ?_ ?_ l.length 0 (by omega)
 · intro i x o hx h1 h2
   have hi:i<l.length:=(dT.1 hx).1
   have c:=aW (z:=1) (enc:=dW) (fun _=>rfl) hx
   have c0:(l.flatMap dW).getD (i*1) .bz = .sc (.string x):=c 0 (by decide)
   have w:re.wrap ((i:Int)+1)=((i+1:Nat):Int):=by rw[aQ (by omega) (by omega)];rfl
   have hd:decide ((i:Int)<(l.length:Int))=true:=by simp;omega
   refine af aH (FV l.length i (l.flatMap dW) (p x)) ?_
   simp only[DI,aV,aA.ok,isStr,isInt,aO,isBool,bg,au,bf,an,aD,ak,aP,afm,c0,hd,w]
   exact⟨fun _=>⟨by first | (simp;done) | (simp;omega),rfl,hp x (mv hx),h1,h2⟩,fun q=>(by cases q)⟩
 · have hd:decide ((l.length:Int)<(l.length:Int))=false:=by simp
   refine af aH (FV l.length l.length (l.flatMap dW) true) ?_
   simp only[DI,aV,aA.ok,hd]
   exact⟨fun q=>(by cases q),fun _=>trivial⟩
theorem Q0 (l:List ByteArray) (hl:l.length≤10000000) (p:ByteArray→Bool) (hp : ∀x∈l,az ae env 73 [(.p (.sc (.string x)))] [] (sB (p x)) []) :
  az ae env 62 [.p (.ps l.length 1 (l.flatMap dW)),.fn (.func 73) [] []] [] (sB (l.any p)) []:=by
 refine aa aH (Qv l.length (l.flatMap dW) (jH p l 0)) ?_
 simp only[Ku,aA.ok,je]
 exact⟨QZ l hl p hp,trivial⟩
theorem Q1 (l:List Ty) (hl:l.length≤10000000) (p:Ty→Bool) (hp : ∀x∈l,az ae env 66 [(.agg ((bK x).map .p))] [] (sB (p x)) []) :
  az ae env 111 [.p (.ps l.length 2 (l.flatMap bK)),.fn (.func 66) [] []] [] (sI .i64 (jH p l 0)) []:=by
 refine aa aH (Ms l.length (l.flatMap bK)) ?_
 refine jR (l:=l) (p:=p) (D:=fun i=>ah ae env 111 0 [.p (.ps l.length 2 (l.flatMap bK)),.fn (.func 66) [] [],sI .i64 l.length,sI .i64 i] [] 0 19) ?_ ?_ l.length 0 (by omega)
 · intro i x o hx h1 h2
   have hi:i<l.length:=(dT.1 hx).1
   have c:=aW (z:=2) (enc:=bK) (fun _=>rfl) hx
   have c0:(l.flatMap bK).getD (i*2) .bz = .sc (.int .i64 x.p):=c 0 (by decide)
   have c1:(l.flatMap bK).getD (i*2+1) .bz = .sc (.int .i64 x.r):=c 1 (by decide)
   have w:re.wrap ((i:Int)+1)=((i+1:Nat):Int):=by rw[aQ (by omega) (by omega)];rfl
   have hd:decide ((i:Int)<(l.length:Int))=true:=by simp;omega
   refine af aH (FW l.length i (l.flatMap bK) (p x)) ?_
   simp only[DJ,aV,aA.ok,isStr,isInt,aO,isBool,bg,au,bf,an,aD,ak,aP,afm,c0,c1,hd,w]
   exact⟨fun _=>⟨by first | (simp;done) | (simp;omega),rfl,hp x (mv hx),h1,h2⟩,fun q=>(by cases q)⟩
 · have hd:decide ((l.length:Int)<(l.length:Int))=false:=by simp
   refine af aH (FW l.length l.length (l.flatMap bK) true) ?_
   simp only[DJ,aV,aA.ok,hd]
   exact⟨fun q=>(by cases q),fun _=>trivial⟩
theorem Q2 (l:List Ty) (hl:l.length≤10000000) (p:Ty→Bool) (hp : ∀x∈l,az ae env 66 [(.agg ((bK x).map .p))] [] (sB (p x)) []) :
  az ae env 65 [.p (.ps l.length 2 (l.flatMap bK)),.fn (.func 66) [] []] [] (sB (l.any p)) []:=by
 refine aa aH (Qw l.length (l.flatMap bK) (jH p l 0)) ?_
 simp only[Kv,aA.ok,je]
 exact⟨Q1 l hl p hp,trivial⟩
theorem Q3 (l:List Im) (hl:l.length≤10000000) (p:Im→Bool) (hp : ∀x∈l,az ae env 69 [(.agg ((bh x).map .p))] [] (sB (p x)) []) :
  az ae env 112 [.p (.ps l.length 3 (l.flatMap bh)),.fn (.func 69) [] []] [] (sI .i64 (jH p l 0)) []:=by
 refine aa aH (Mt l.length (l.flatMap bh)) ?_
 refine jR (l:=l) (p:=p) (D:=fun i=>ah ae env 112 0 [.p (.ps l.length 3 (l.flatMap bh)),.fn (.func 69) [] [],sI .i64 l.length,sI .i64 i] [] 0 19) ?_ ?_ l.length 0 (by omega)
 · intro i x o hx h1 h2
   have hi:i<l.length:=(dT.1 hx).1
   have c:=aW (z:=3) (enc:=bh) (fun _=>rfl) hx
   have c0:(l.flatMap bh).getD (i*3) .bz = .sc (.string x.mo):=c 0 (by decide)
   have c1:(l.flatMap bh).getD (i*3+1) .bz = .sc (.string x.nm):=c 1 (by decide)
   have c2:(l.flatMap bh).getD (i*3+1+1) .bz = .sc (.int .i64 x.ty):=c 2 (by decide)
   have w:re.wrap ((i:Int)+1)=((i+1:Nat):Int):=by rw[aQ (by omega) (by omega)];rfl
   have hd:decide ((i:Int)<(l.length:Int))=true:=by simp;omega
   refine af aH (FX l.length i (l.flatMap bh) (p x)) ?_
   simp only[DK,aV,aA.ok,isStr,isInt,aO,isBool,bg,au,bf,an,aD,ak,aP,afm,c0,c1,c2,hd,w]
   exact⟨fun _=>⟨by first | (simp;done) | (simp;omega),rfl,hp x (mv hx),h1,h2⟩,fun q=>(by cases q)⟩
 · have hd:decide ((l.length:Int)<(l.length:Int))=false:=by simp
   refine af aH (FX l.length l.length (l.flatMap bh) true) ?_
   simp only[DK,aV,aA.ok,hd]
   exact⟨fun q=>(by cases q),fun _=>trivial⟩
theorem Q4 (l:List Im) (hl:l.length≤10000000) (p:Im→Bool) (hp : ∀x∈l,az ae env 69 [(.agg ((bh x).map .p))] [] (sB (p x)) []) :
  az ae env 68 [.p (.ps l.length 3 (l.flatMap bh)),.fn (.func 69) [] []] [] (sB (l.any p)) []:=by
 refine aa aH (Qx l.length (l.flatMap bh) (jH p l 0)) ?_
 simp only[Kw,aA.ok,je]
 exact⟨Q3 l hl p hp,trivial⟩
theorem Q5 (l:List Fu) (hl:l.length≤10000000) (p:Fu→Bool) (hp : ∀x∈l,az ae env 72 [(.agg ((aG x).map .p))] [] (sB (p x)) []) :
  az ae env 113 [.p (.ps l.length 3 (l.flatMap aG)),.fn (.func 72) [] []] [] (sI .i64 (jH p l 0)) []:=by
 refine aa aH (Mu l.length (l.flatMap aG)) ?_
 refine jR (l:=l) (p:=p) (D:=fun i=>ah ae env 113 0 [.p (.ps l.length 3 (l.flatMap aG)),.fn (.func 72) [] [],sI .i64 l.length,sI .i64 i] [] 0 19) ?_ ?_ l.length 0 (by omega)
 · intro i x o hx h1 h2
   have hi:i<l.length:=(dT.1 hx).1
   have c:=aW (z:=3) (enc:=aG) (fun _=>rfl) hx
   have c0:(l.flatMap aG).getD (i*3) .bz = .sc (.int .i64 x.ty):=c 0 (by decide)
   have c1:(l.flatMap aG).getD (i*3+1) .bz = .sc (.int .i64 x.lo):=c 1 (by decide)
   have c2:(l.flatMap aG).getD (i*3+1+1) .bz=pL x.l:=c 2 (by decide)
   have w:re.wrap ((i:Int)+1)=((i+1:Nat):Int):=by rw[aQ (by omega) (by omega)];rfl
   have hd:decide ((i:Int)<(l.length:Int))=true:=by simp;omega
   refine af aH (FY l.length i (l.flatMap aG) (p x)) ?_
   simp only[DL,aV,aA.ok,isStr,isInt,aO,isBool,bg,au,bf,an,aD,ak,aP,afm,c0,c1,c2,hd,w]
   exact⟨fun _=>⟨by first | (simp;done) | (simp;omega),rfl,hp x (mv hx),h1,h2⟩,fun q=>(by cases q)⟩
 · have hd:decide ((l.length:Int)<(l.length:Int))=false:=by simp
   refine af aH (FY l.length l.length (l.flatMap aG) true) ?_
   simp only[DL,aV,aA.ok,hd]
   exact⟨fun q=>(by cases q),fun _=>trivial⟩
theorem Q6 (l:List Fu) (hl:l.length≤10000000) (p:Fu→Bool) (hp : ∀x∈l,az ae env 72 [(.agg ((aG x).map .p))] [] (sB (p x)) []) :
  az ae env 71 [.p (.ps l.length 3 (l.flatMap aG)),.fn (.func 72) [] []] [] (sB (l.any p)) []:=by
 refine aa aH (Qy l.length (l.flatMap aG) (jH p l 0)) ?_
 simp only[Kx,aA.ok,je]
 exact⟨Q5 l hl p hp,trivial⟩
theorem Q7 (l:List Li) (hl:l.length≤10000000) (p:Li→Bool) (hp : ∀x∈l,az ae env 76 [(.agg ((aF x).map .p))] [] (sB (p x)) []) :
  az ae env 115 [.p (.ps l.length 3 (l.flatMap aF)),.fn (.func 76) [] []] [] (sI .i64 (jH p l 0)) []:=by
 refine aa aH (Mv l.length (l.flatMap aF)) ?_
 refine jR (l:=l) (p:=p) (D:=fun i=>ah ae env 115 0 [.p (.ps l.length 3 (l.flatMap aF)),.fn (.func 76) [] [],sI .i64 l.length,sI .i64 i] [] 0 19) ?_ ?_ l.length 0 (by omega)
 · intro i x o hx h1 h2
   have hi:i<l.length:=(dT.1 hx).1
   have c:=aW (z:=3) (enc:=aF) (fun _=>rfl) hx
   have c0:(l.flatMap aF).getD (i*3) .bz = .sc (.int .u32 x.mn):=c 0 (by decide)
   have c1:(l.flatMap aF).getD (i*3+1) .bz = .sc (.int .u32 x.mx):=c 1 (by decide)
   have c2:(l.flatMap aF).getD (i*3+1+1) .bz = .sc (.bool x.cap):=c 2 (by decide)
   have w:re.wrap ((i:Int)+1)=((i+1:Nat):Int):=by rw[aQ (by omega) (by omega)];rfl
   have hd:decide ((i:Int)<(l.length:Int))=true:=by simp;omega
   refine af aH (F0 l.length i (l.flatMap aF) (p x)) ?_
   simp only[DM,aV,aA.ok,isStr,isInt,aO,isBool,bg,au,bf,an,aD,ak,aP,afm,c0,c1,c2,hd,w]
   exact⟨fun _=>⟨by first | (simp;done) | (simp;omega),rfl,hp x (mv hx),h1,h2⟩,fun q=>(by cases q)⟩
 · have hd:decide ((l.length:Int)<(l.length:Int))=false:=by simp
   refine af aH (F0 l.length l.length (l.flatMap aF) true) ?_
   simp only[DM,aV,aA.ok,hd]
   exact⟨fun q=>(by cases q),fun _=>trivial⟩
theorem Q8 (l:List Li) (hl:l.length≤10000000) (p:Li→Bool) (hp : ∀x∈l,az ae env 76 [(.agg ((aF x).map .p))] [] (sB (p x)) []) :
  az ae env 75 [.p (.ps l.length 3 (l.flatMap aF)),.fn (.func 76) [] []] [] (sB (l.any p)) []:=by
 refine aa aH (Qz l.length (l.flatMap aF) (jH p l 0)) ?_
 simp only[Ky,aA.ok,je]
 exact⟨Q7 l hl p hp,trivial⟩
theorem Q9 (l:List Li) (hl:l.length≤10000000) (p:Li→Bool) (hp : ∀x∈l,az ae env 78 [(.agg ((aF x).map .p))] [] (sB (p x)) []) :
  az ae env 115 [.p (.ps l.length 3 (l.flatMap aF)),.fn (.func 78) [] []] [] (sI .i64 (jH p l 0)) []:=by
 refine aa aH (Mw l.length (l.flatMap aF)) ?_
 refine jR (l:=l) (p:=p) (D:=fun i=>ah ae env 115 0 [.p (.ps l.length 3 (l.flatMap aF)),.fn (.func 78) [] [],sI .i64 l.length,sI .i64 i] [] 0 19) ?_ ?_ l.length 0 (by omega)
 · intro i x o hx h1 h2
   have hi:i<l.length:=(dT.1 hx).1
   have c:=aW (z:=3) (enc:=aF) (fun _=>rfl) hx
   have c0:(l.flatMap aF).getD (i*3) .bz = .sc (.int .u32 x.mn):=c 0 (by decide)
   have c1:(l.flatMap aF).getD (i*3+1) .bz = .sc (.int .u32 x.mx):=c 1 (by decide)
   have c2:(l.flatMap aF).getD (i*3+1+1) .bz = .sc (.bool x.cap):=c 2 (by decide)
   have w:re.wrap ((i:Int)+1)=((i+1:Nat):Int):=by rw[aQ (by omega) (by omega)];rfl
   have hd:decide ((i:Int)<(l.length:Int))=true:=by simp;omega
   refine af aH (F1 l.length i (l.flatMap aF) (p x)) ?_
   simp only[DN,aV,aA.ok,isStr,isInt,aO,isBool,bg,au,bf,an,aD,ak,aP,afm,c0,c1,c2,hd,w]
   exact⟨fun _=>⟨by first | (simp;done) | (simp;omega),rfl,hp x (mv hx),h1,h2⟩,fun q=>(by cases q)⟩
 · have hd:decide ((l.length:Int)<(l.length:Int))=false:=by simp
   refine af aH (F1 l.length l.length (l.flatMap aF) true) ?_
   simp only[DN,aV,aA.ok,hd]
   exact⟨fun q=>(by cases q),fun _=>trivial⟩
theorem Ra (l:List Li) (hl:l.length≤10000000) (p:Li→Bool) (hp : ∀x∈l,az ae env 78 [(.agg ((aF x).map .p))] [] (sB (p x)) []) :
  az ae env 75 [.p (.ps l.length 3 (l.flatMap aF)),.fn (.func 78) [] []] [] (sB (l.any p)) []:=by
 refine aa aH (QA l.length (l.flatMap aF) (jH p l 0)) ?_
 simp only[Kz,aA.ok,je]
 exact⟨Q9 l hl p hp,trivial⟩
theorem Rb (l:List Ex) (hl:l.length≤10000000) (p:Ex→Bool) (hp : ∀x∈l,az ae env 80 [(.agg ((bu x).map .p))] [] (sB (p x)) []) :
  az ae env 116 [.p (.ps l.length 3 (l.flatMap bu)),.fn (.func 80) [] []] [] (sI .i64 (jH p l 0)) []:=by
 refine aa aH (Mx l.length (l.flatMap bu)) ?_
 refine jR (l:=l) (p:=p) (D:=fun i=>ah ae env 116 0 [.p (.ps l.length 3 (l.flatMap bu)),.fn (.func 80) [] [],sI .i64 l.length,sI .i64 i] [] 0 19) ?_ ?_ l.length 0 (by omega)
 · intro i x o hx h1 h2
   have hi:i<l.length:=(dT.1 hx).1
   have c:=aW (z:=3) (enc:=bu) (fun _=>rfl) hx
   have c0:(l.flatMap bu).getD (i*3) .bz = .sc (.string x.nm):=c 0 (by decide)
   have c1:(l.flatMap bu).getD (i*3+1) .bz = .sc (.int .i64 x.kind):=c 1 (by decide)
   have c2:(l.flatMap bu).getD (i*3+1+1) .bz = .sc (.int .u32 x.ix):=c 2 (by decide)
   have w:re.wrap ((i:Int)+1)=((i+1:Nat):Int):=by rw[aQ (by omega) (by omega)];rfl
   have hd:decide ((i:Int)<(l.length:Int))=true:=by simp;omega
   refine af aH (F2 l.length i (l.flatMap bu) (p x)) ?_
   simp only[DO,aV,aA.ok,isStr,isInt,aO,isBool,bg,au,bf,an,aD,ak,aP,afm,c0,c1,c2,hd,w]
   exact⟨fun _=>⟨by first | (simp;done) | (simp;omega),rfl,hp x (mv hx),h1,h2⟩,fun q=>(by cases q)⟩
 · have hd:decide ((l.length:Int)<(l.length:Int))=false:=by simp
   refine af aH (F2 l.length l.length (l.flatMap bu) true) ?_
   simp only[DO,aV,aA.ok,hd]
   exact⟨fun q=>(by cases q),fun _=>trivial⟩
theorem Rc (l:List Ex) (hl:l.length≤10000000) (p:Ex→Bool) (hp : ∀x∈l,az ae env 80 [(.agg ((bu x).map .p))] [] (sB (p x)) []) :
  az ae env 79 [.p (.ps l.length 3 (l.flatMap bu)),.fn (.func 80) [] []] [] (sB (l.any p)) []:=by
 refine aa aH (QB l.length (l.flatMap bu) (jH p l 0)) ?_
 simp only[KA,aA.ok,je]
 exact⟨Rb l hl p hp,trivial⟩
def vv (x:Ty):Int:=if 0≤x.p∧x.p≤255∧0≤x.r∧x.r≤1 then 0 else 2
def yC (most:Int) (x:Li):Int:=if x.mn>most∨(x.cap=true∧(x.mx<x.mn∨x.mx>most))∨(x.cap=false∧x.mx≠0) then 2 else 0
theorem yD (x:Ty):az ae env 67 [.agg ((bK x).map .p)] [] (sI .i64 (vv x)) []:=by
 refine aa aH (QC x.p x.r) ?_
 simp only[KB,aA.ok,cond_true,cond_false,Bool.and_true]
 refine⟨fun q=> ?_,fun q=> ?_⟩
 · simp only[Bool.not_eq_true',Bool.and_eq_false_iff,beq_eq_false_iff_ne,ne_eq] at q
   rw[vv,if_neg (by omega)]
 · simp only[Bool.not_eq_false',Bool.and_eq_true,beq_iff_eq] at q
   rw[vv,if_pos (by omega)]
theorem sx (x:Li) (most:Int):az ae env 77 [.agg ((aF x).map .p),sI .u32 most] [] (sI .i64 (yC most x)) []:=by
 refine aa aH (QD x.mn x.mx x.cap most) ?_
 obtain⟨mn,mx,cap⟩:=x
 simp only[KC,aA.ok,yC]
 cases cap with
 |true=>
  refine⟨fun q=> ?_,fun q=>⟨fun _=>⟨fun r=> ?_,fun r=>⟨fun t=> ?_,fun t=>⟨rfl,?_⟩⟩⟩,fun r=>(by cases r)⟩⟩<;>simp only[decide_eq_true_eq,decide_eq_false_iff_not] at *
  · rw[if_pos (.inl q)]
  · rw[if_pos (.inr (.inl ⟨trivial,.inl r⟩))]
  · rw[if_pos (.inr (.inl ⟨trivial,.inr t⟩))]
  · rw[if_neg (by simp;omega)]
 |false=>
  refine⟨fun q=> ?_,fun q=>⟨fun r=>(by cases r),fun _=>⟨rfl,fun r=> ?_,fun r=> ?_⟩⟩⟩
  · simp only[decide_eq_true_eq] at q
    rw[if_pos (.inl q)]
  · rw[if_pos (.inr (.inr ⟨rfl,by simpa using r⟩))]
  · simp only[decide_eq_false_iff_not] at q
    have r:mx=0:=by simpa using r
    rw[if_neg (by simp[r];omega)]
def BH (x:El):Bool:=decide ((x.fs.length:Int)>16384)
def BI (s:ByteArray):Bool:=decide ((s.data.toList.length:Int)>1000)
def vw (x:Ty):Bool:=vv x != 0
def sy (x:Im):Bool:= !(decide (0≤x.ty)&&decide (x.ty≤2147483647))
def sA (x:Fu):Bool:= !(decide (0≤x.ty)&&decide (x.ty≤2147483647))||decide (x.lo<0)||decide (x.lo>50000)
def jT (most:Int) (x:Li):Bool:=yC most x != 0
def sC (x:Ex):Bool:=decide (x.kind<0)||decide (x.kind>3)
theorem Rd (x:El):az ae env 60 [.agg ((aN x).map .p)] [] (sB (BH x)) []:=aa aH (QE x) rfl
theorem Re (s:ByteArray):az ae env 64 [.p (.sc (.string s))] [] (sB (BI s)) []:=aa aH (QF s) rfl
theorem Rf (x:Ty):az ae env 66 [.agg ((bK x).map .p)] [] (sB (vw x)) []:=aa aH (QH x (vv x)) ⟨yD x,rfl⟩
theorem Rg (x:Li):az ae env 76 [.agg ((aF x).map .p)] [] (sB (jT 1048576 x)) []:=aa aH (QJ x (yC 1048576 x)) ⟨sx x _,rfl⟩
theorem Rh (x:Li):az ae env 78 [.agg ((aF x).map .p)] [] (sB (jT 65536 x)) []:=aa aH (QK x (yC 65536 x)) ⟨sx x _,rfl⟩
theorem Ri (x:Im):az ae env 69 [.agg ((bh x).map .p)] [] (sB (sy x)) []:=by
 refine aa aH (QI x) ?_
 simp only[KD,aV,aA.ok,sy,ge_iff_le]
 exact⟨fun q=>by rw[q,ajX],fun q=>by rw[q];rfl⟩
theorem Rj (x:Ex):az ae env 80 [.agg ((bu x).map .p)] [] (sB (sC x)) []:=by
 refine aa aH (QL x) ?_
 simp only[KE,aV,aA.ok,sC]
 exact⟨fun q=>by rw[q];rfl,fun q=>by rw[q,pb]⟩
theorem Rk (x:Fu):az ae env 72 [.agg ((aG x).map .p)] [] (sB (sA x)) []:=by
 refine aa aH (QM x) ?_
 simp only[KF,aV,aA.ok,sA,ge_iff_le]
 refine⟨fun q=>⟨fun r=> ?_,fun r=>⟨fun t=> ?_,fun t=> ?_⟩⟩,fun q=> ?_⟩
 · rw[q,ajX,r];rfl
 · rw[q,ajX,r,t];rfl
 · rw[q,ajX,r,t];rfl
 · rw[q];rfl
def nK (M:Mo):List ByteArray:=M.aX.flatMap (fun x=>[x.mo,x.nm])++M.exs.map Ex.nm
def I6 (M:Mo):List (List Ins):=M.fns.map Fu.l++M.gls.map Gl.l++M.els.map El.l++M.bp.map Da.l
theorem mB {α β:Type} {f:α→β} {g:β→List PV} : ∀l:List α,(l.map f).flatMap g=l.flatMap fun x=>g (f x)
 |[]=>rfl
 |x::r=>by rw[List.map_cons,aju,aju,mB r]
theorem KI : ∀l:List Im,(l.flatMap fun x=>[x.mo,x.nm]).flatMap dW=l.flatMap Me
 |[]=>rfl
 |x::r=>by rw[aju,aju,ajT,KI r];rfl
theorem DR (M:Mo):Qj M=(nK M).flatMap dW:=by
 rw[nK,ajT,mB,KI];rfl
theorem KJ (M:Mo):U0 M=(I6 M).flatMap F6:=by
 rw[I6,ajT,ajT,ajT,mB,mB,mB,mB];rfl
theorem DS (M:Mo):(Qj M).length=(nK M).length:=by rw[DR,fB (n:=1) (fun _=>rfl),ajS]
theorem Vj (M:Mo):(U0 M).length=(I6 M).length:=by rw[KJ,fB (n:=1) (fun _=>rfl),ajS]
theorem uo {M:Mo} (hM:M.fit):(nK M).length≤10000000:=by
 have h1:=hM.aX;have h2:=hM.exs
 have l1:=fB (f:=Me) (n:=2) (fun _=>rfl) M.aX
 have l2:=fB (f:=TA) (n:=1) (fun _=>rfl) M.exs
 rw[←DS,Qj,dC];omega
theorem abt {M:Mo} (hM:M.fit):(I6 M).length≤10000000:=by
 have h1:=hM.fns;have h2:=hM.gls;have h3:=hM.els;have h4:=hM.bp
 simp only[I6,dC,List.length_map];omega
theorem Rl (M:Mo) (hM:M.fit):az ae env 63 [.agg (M.aJ.map .p)] [] (.p (.ps (nK M).length 1 ((nK M).flatMap dW))) []:=by
 have h:=I4 M hM
 rw[DS,DR] at h
 exact h
theorem abu (M:Mo) (hM:M.fit):az ae env 108 [.agg (M.aJ.map .p)] [] (.p (.ps (I6 M).length 1 ((I6 M).flatMap F6))) []:=by
 have h:=I5 M hM
 rw[Vj,KJ] at h
 exact h
def _root_.Go.Am.Mo.uq (M:Mo):Prop:= ∀l∈I6 M,cg l≤100000000000
def hU (M:Mo) (e:Int):Bool:=(I6 M).any fun l=>bT dQ l==e
theorem Vk {l:List (List Ins)} {e:Int} (hl:l.length≤10000000) (hs : ∀x∈l,cg x≤100000000000) : ∀(r i:Nat),i+r=l.length →
  aU ae env (ah ae env 61 0 [sI .i64 e,.p (.ps l.length 1 (l.flatMap F6)),sI .i64 l.length,sI .i64 i] [] 0 20) (.ret (sI .i64 (if(l.drop i).any (fun x=>bT dQ x==e)=true then e else 0)) []):=by
 intro r
 induction r with
 |zero=>
  intro i hi
  obtain rfl:i=l.length:=by omega
  have hd:decide ((l.length:Int)<(l.length:Int))=false:=by simp
  refine af aH (F3 e l.length l.length (l.flatMap F6) 0) ?_
  simp only[DP,aV,aA.ok,hd,ajU]
  exact⟨fun q=>(by cases q),fun _=>rfl⟩
 |succ r ih=>
  intro i hi
  have nW:i<l.length:=by omega
  have hx:=da nW
  have hm:l[i]∈l:=List.getElem_mem nW
  rw[agj nW,ajV]
  generalize l[i]=x at *
  have c:=aW (z:=1) (enc:=F6) (fun _=>rfl) hx
  have c0:(l.flatMap F6).getD (i*1) .bz=pL x:=c 0 (by decide)
  have w:re.wrap ((i:Int)+1)=((i+1:Nat):Int):=by rw[aQ (by omega) (by omega)];rfl
  have hd:decide ((i:Int)<(l.length:Int))=true:=by simp;omega
  refine af aH (F3 e l.length i (l.flatMap F6) (bT dQ x)) ?_
  simp only[DP,aV,aA.ok,aO,an,aD,ak,aP,afm,c0,hd,w]
  refine⟨fun _=>⟨by first | (simp;done) | (simp;omega),rfl,xW Bq x (hs x hm),fun q=> ?_,fun q=> ?_⟩,fun q=>(by cases q)⟩
  · rw[q,Bool.true_or,if_pos rfl]
  · rw[q,pb]
    exact ih (i+1) (by omega)
theorem vg (M:Mo) (hM:M.fit) (hs:M.uq) (e:Int):az ae env 61 [.agg (M.aJ.map .p),sI .i64 e] [] (sI .i64 (if hU M e=true then e else 0)) []:=by
 refine aa aH (QO M e (I6 M).length ((I6 M).flatMap F6)) ?_
 exact⟨abu M hM,Vk (abt hM) hs (I6 M).length 0 (by omega)⟩
def oN:Int→List Da→Int
 |n,[]=>n
 |n,x::r=>oN (n-min (x.bs.length:Int) (n+1)) r
def gp (M:Mo):Bool:=(nK M).any BI
def F7 (M:Mo):Int:=if oN 1048576 M.bp<0∨gp M=true then 3 else 0
theorem Vl (M:Mo) (hM:M.fit) : ∀(r i:Nat) (n:Int),i+r=M.bp.length → -1≤n→n≤1048576 →
  aU ae env (ah ae env 32 0 [.mp 0 0,sI .i64 n,.p (.ps M.bp.length 2 (M.bp.flatMap aZ)),sI .i64 M.bp.length,sI .i64 i] [.pc M.aJ] 0 29) (.ret (sI .i64 (if oN n (M.bp.drop i)<0∨gp M=true then 3 else 0)) []):=by
 intro r
 induction r with
 |zero=>
  intro i n hi h1 h2
  obtain rfl:i=M.bp.length:=by omega
  have hd:decide ((M.bp.length:Int)<(M.bp.length:Int))=false:=by simp
  refine af aH (F4 M M.bp.length M.bp.length n (M.bp.flatMap aZ) (nK M).length ((nK M).flatMap dW) (gp M)) ?_
  simp only[DQ,aV,aA.ok,hd,ajU,oN]
  refine⟨fun q=>(by cases q),fun _=>⟨fun q=> ?_,fun q=>⟨Rl M hM,QY (nK M) (uo hM) BI (fun x _=>Re x),fun t=> ?_,fun t=> ?_⟩⟩⟩<;>simp only[decide_eq_true_eq,decide_eq_false_iff_not] at q
  · rw[if_pos (.inl q)]
  · rw[if_pos (.inr t)]
  · rw[if_neg (by simp[t];omega)]
 |succ r ih=>
  intro i n hi h1 h2
  have hl:=hM.bp
  have nW:i<M.bp.length:=by omega
  have hx:=da nW
  rw[agj nW]
  generalize M.bp[i]=x at *
  have c:=aW (z:=2) (enc:=aZ) (fun _=>rfl) hx
  have c0:(M.bp.flatMap aZ).getD (i*2) .bz=pL x.l:=c 0 (by decide)
  have c1:(M.bp.flatMap aZ).getD (i*2+1) .bz=pT .u8 x.bs:=c 1 (by decide)
  have w:re.wrap ((i:Int)+1)=((i+1:Nat):Int):=by rw[aQ (by omega) (by omega)];rfl
  have w1:re.wrap (n+1)=n+1:=aQ (by omega) (by omega)
  have w2:re.wrap (n-min (x.bs.length:Int) (n+1))=n-min (x.bs.length:Int) (n+1):=aQ (by omega) (by omega)
  have hd:decide ((i:Int)<(M.bp.length:Int))=true:=by simp;omega
  refine af aH (F4 M M.bp.length i n (M.bp.flatMap aZ) 0 [] true) ?_
  simp only[DQ,aV,aA.ok,aO,an,aD,ak,aP,afm,c0,c1,hd,w,w1,w2,cond_true,oN]
  exact⟨fun _=>⟨by first | (simp;done) | (simp;omega),rfl,ih (i+1) _ (by omega) (by omega) (by omega)⟩,fun q=>(by cases q)⟩
theorem Mz (M:Mo) (hM:M.fit):az ae env 32 [.agg (M.aJ.map .p)] [] (sI .i64 (F7 M)) []:=
 aa aH (QS M) (Vl M hM M.bp.length 0 1048576 (by omega) (by omega) (by omega))
def gG (M:Mo):Bool:=decide (M.b8.length>1)||decide (M.b9.length>1)||decide (max (max (max (max (max (max (M.tys.length:Int) M.aX.length) M.fns.length) M.gls.length) M.exs.length) M.els.length) M.bp.length>16384)||M.els.any BH
def BJ (M:Mo):Int:=if gG M=true then 141 else if hU M 141=true then 141 else 0
theorem MA (M:Mo) (hM:M.fit) (hs:M.uq):az ae env 31 [.agg (M.aJ.map .p)] [] (sI .i64 (BJ M)) []:=by
 have hE:=QW M.els (by have:=hM.els;omega) BH (fun x _=>Rd x)
 refine aa aH (QT M (M.els.any BH) (if hU M 141=true then 141 else 0)) ?_
 have ia:=vg M hM hs 141
 have hF:BJ M=if gG M=true then 141 else if hU M 141=true then 141 else 0:=rfl
 generalize (if hU M 141=true then(141:Int) else 0)=v at ia hF ⊢
 simp only[KG,aA.ok,cond_false,cond_true]
 refine⟨fun q=> ?_,fun q=>⟨fun r=> ?_,fun r=>⟨fun t=> ?_,fun t=>⟨hE,fun u=> ?_,fun u=>⟨ia,?_⟩⟩⟩⟩⟩<;>simp only[decide_eq_true_eq,decide_eq_false_iff_not] at *
 · rw[hF,if_pos (by simp only[gG,iu,decide_eq_true_eq];omega)]
 · rw[hF,if_pos (by simp only[gG,iu,decide_eq_true_eq];omega)]
 · rw[hF,if_pos (by simp only[gG,iu,decide_eq_true_eq];omega)]
 · rw[hF,if_pos (by simp[gG,u])]
 · rw[hF,if_neg (by simp only[gG,u,iu,decide_eq_true_eq,Bool.or_false];omega)]
end Go.Proofs.YtncncijedmfpjaaGreatDoor.N
end
