import Derived.Test.YtdmmllcjgjmbbaaGreatDoorMJ
open Nat renaming beq→ae,mul_one→aeR
open Go.Proofs.Tryz renaming prog→acb
open Go.Fn renaming func→acm
open Go.IntKind renaming i64→sb,u32→abY
open Min renaming min→aco
open Max renaming max→acx
open List renaming getElem?_eq_some_iff→dp,mem_of_getElem?→mb,map→ab6,flatMap_append→aeS,flatMap→aem,drop_eq_getElem_cons→aeT,getElem?_eq_getElem→cb,flatMap_cons→adE,drop_length→aeU,length_append→di,any_cons→aeV
open Bool renaming or_eq_true→il,true_and→aeM,false_or→pj
open Int renaming toNat_natCast→acy
noncomputable section
section
set_option linter.unusedSimpArgs false
set_option linter.unusedVariables false
namespace Go.Proofs.YtdmmllcjgjmbbaaGreatDoor.N
open Go Go.Am
def adj (k i:Nat) (cs:List PV) (ok:Bool) (f:FuncId) (_:List AV) (m:Mem):Option (AV×Mem):=cond (ae f 53) (some (sB ok,m)) none
def adk (k i:Nat) (cs:List PV) (ok:Bool) (f:FuncId) (_:List AV) (m:Mem):Option (AV×Mem):=cond (ae f 57) (some (sB ok,m)) none
def adl (k i:Nat) (cs:List PV) (ok:Bool) (f:FuncId) (_:List AV) (m:Mem):Option (AV×Mem):=cond (ae f 66) (some (sB ok,m)) none
def adm (k i:Nat) (cs:List PV) (ok:Bool) (f:FuncId) (_:List AV) (m:Mem):Option (AV×Mem):=cond (ae f 59) (some (sB ok,m)) none
def adn (k i:Nat) (cs:List PV) (ok:Bool) (f:FuncId) (_:List AV) (m:Mem):Option (AV×Mem):=cond (ae f 62) (some (sB ok,m)) none
def ado (k i:Nat) (cs:List PV) (ok:Bool) (f:FuncId) (_:List AV) (m:Mem):Option (AV×Mem):=cond (ae f 65) (some (sB ok,m)) none
def adp (k i:Nat) (cs:List PV) (ok:Bool) (f:FuncId) (_:List AV) (m:Mem):Option (AV×Mem):=cond (ae f 69) (some (sB ok,m)) none
def adq (k i:Nat) (cs:List PV) (ok:Bool) (f:FuncId) (_:List AV) (m:Mem):Option (AV×Mem):=cond (ae f 71) (some (sB ok,m)) none
def adr (k i:Nat) (cs:List PV) (ok:Bool) (f:FuncId) (_:List AV) (m:Mem):Option (AV×Mem):=cond (ae f 73) (some (sB ok,m)) none
def ads (k:Nat) (cs:List PV) (r:Int) (f:FuncId) (_:List AV) (m:Mem):Option (AV×Mem):=cond (ae f 105) (some (sI .i64 r,m)) none
def adt (k:Nat) (cs:List PV) (r:Int) (f:FuncId) (_:List AV) (m:Mem):Option (AV×Mem):=cond (ae f 107) (some (sI .i64 r,m)) none
def adu (k:Nat) (cs:List PV) (r:Int) (f:FuncId) (_:List AV) (m:Mem):Option (AV×Mem):=cond (ae f 107) (some (sI .i64 r,m)) none
def adv (k:Nat) (cs:List PV) (r:Int) (f:FuncId) (_:List AV) (m:Mem):Option (AV×Mem):=cond (ae f 108) (some (sI .i64 r,m)) none
def adw (k:Nat) (cs:List PV) (r:Int) (f:FuncId) (_:List AV) (m:Mem):Option (AV×Mem):=cond (ae f 109) (some (sI .i64 r,m)) none
def adx (k:Nat) (cs:List PV) (r:Int) (f:FuncId) (_:List AV) (m:Mem):Option (AV×Mem):=cond (ae f 110) (some (sI .i64 r,m)) none
def ady (k:Nat) (cs:List PV) (r:Int) (f:FuncId) (_:List AV) (m:Mem):Option (AV×Mem):=cond (ae f 112) (some (sI .i64 r,m)) none
def adz (k:Nat) (cs:List PV) (r:Int) (f:FuncId) (_:List AV) (m:Mem):Option (AV×Mem):=cond (ae f 112) (some (sI .i64 r,m)) none
def adA (k:Nat) (cs:List PV) (r:Int) (f:FuncId) (_:List AV) (m:Mem):Option (AV×Mem):=cond (ae f 25) (some (sI .i64 r,m)) none
def adB (s:ByteArray) (r:Int) (f:FuncId) (_:List AV) (m:Mem):Option (AV×Mem):=cond (ae f 67) (some (sI .i64 r,m)) none
def adC (x:Ty) (e:Int) (f:FuncId) (_:List AV) (m:Mem):Option (AV×Mem):=cond (ae f 60) (some (sI .i64 e,m)) none
def ZM (x:Li) (e:Int) (f:FuncId) (_:List AV) (m:Mem):Option (AV×Mem):=cond (ae f 70) (some (sI .i64 e,m)) none
def liC (M:Mo) (e:Int) (n:Nat) (cs:List PV) (f:FuncId) (_:List AV) (m:Mem):Option (AV×Mem):=cond (ae f 34) (some (.p (.ps n 1 cs),m)) none
def adD (e:Int) (k i:Nat) (cs:List PV) (r:Int) (f:FuncId) (_:List AV) (m:Mem):Option (AV×Mem):=cond (ae f 106) (some (sI .i64 r,m)) none
def loC (M:Mo) (k i:Nat) (left:Int) (cs:List PV) (n:Nat) (ns:List PV) (lg:Bool) (f:FuncId) (_:List AV) (m:Mem):Option (AV×Mem):=cond (ae f 56) (some (.p (.ps n 1 ns),m)) (cond (ae f 55) (some (sB lg,m)) none)
def maC (M:Mo) (b:Bool) (e:Int) (f:FuncId) (_:List AV) (m:Mem):Option (AV×Mem):=cond (ae f 52) (some (sB b,m)) (cond (ae f 54) (some (sI .i64 e,m)) none)
def mcC (M:Mo) (a b c:Int) (fn:FuncId) (_:List AV) (m:Mem):Option (AV×Mem):=cond (ae fn 27) (some (sI .i64 a,m)) (cond (ae fn 28) (some (sI .i64 b,m)) (cond (ae fn 29) (some (sI .i64 c,m)) none))
def Rp:bH:=aT aH aA [(105,0)] [] []
def VF:Sc:= .fin
def MM (k:Nat) (cs:List PV):az:=
 (.at (ak acb env 105 0 [.p (.ps k 2 cs),.fn (acm 53) [] [],sI .i64 (↑k:Int),sI .i64 0] ([]) 0 19))
theorem JT (k:Nat) (cs:List PV):aG acb env Rp 1000000 105 ([AV.p (PV.ps k 2 cs),AV.fn (acm 53) [] []]) ([]) VF=MM k cs:=by kernel_rfl
def VG (k:Nat) (i:Nat) (cs:List PV) (ok:Bool):bH:=aT (adj k i cs ok) aA [(105,0)] [(105,0,1),(105,0,2)] [(105,5,3),(105,5,4)]
def ZN:Sc:= .fin
def Cv (k:Nat) (i:Nat) (cs:List PV) (ok:Bool):az:=
 (.test (decide ((↑i:Int)<(↑k:Int)))
 (.must (aW (↑i:Int) k&&true&&true)
 (.must (bB (aF cs (aJ i*2))&&(bB (aF cs (aJ i*2+1))&&true)&&true)
 (.call ⟨53,[.agg [.p (.ps (aE (aF cs (aJ i*2))) (bC (aF cs (aJ i*2))) (aB (aF cs (aJ i*2)))),.p (.ps (aE (aF cs (aJ i*2+1))) (bC (aF cs (aJ i*2+1))) (aB (aF cs (aJ i*2+1))))]],[],.p (.sc (.bool ok)),[]⟩
 (.test (ok)
 (.out (.ret (sI .i64 (↑i:Int)) []))
 (.at (ak acb env 105 0 [.p (.ps k 2 cs),.fn (acm 53) [] [],sI .i64 (↑k:Int),sI .i64 (sb.wrap ((↑i:Int)+1))] ([]) 0 19))))))
 (.out (.ret (sI .i64 (-1)) [])))
theorem D7 (k:Nat) (i:Nat) (cs:List PV) (ok:Bool):grow acb env (VG k i cs ok) 1000000 true (ak acb env 105 0 ([AV.p (PV.ps k 2 cs),AV.fn (acm 53) [] [],sI sb (↑k:Int),sI sb (↑i:Int)]) ([]) 0 19) ZN atEnd=Cv k i cs ok:=by kernel_rfl
def Rq:bH:=aT aH aA [(107,0)] [] []
def VH:Sc:= .fin
def MN (k:Nat) (cs:List PV):az:=
 (.at (ak acb env 107 0 [.p (.ps k 1 cs),.fn (acm 57) [] [],sI .i64 (↑k:Int),sI .i64 0] ([]) 0 19))
theorem JU (k:Nat) (cs:List PV):aG acb env Rq 1000000 107 ([AV.p (PV.ps k 1 cs),AV.fn (acm 57) [] []]) ([]) VH=MN k cs:=by kernel_rfl
def VI (k:Nat) (i:Nat) (cs:List PV) (ok:Bool):bH:=aT (adk k i cs ok) aA [(107,0)] [(107,0,1),(107,0,2)] [(107,5,3),(107,5,4)]
def ZO:Sc:= .fin
def Cw (k:Nat) (i:Nat) (cs:List PV) (ok:Bool):az:=
 (.test (decide ((↑i:Int)<(↑k:Int)))
 (.must (aW (↑i:Int) k&&true&&true)
 (.must (isStr (aF cs (aJ i*1))&&true)
 (.call ⟨57,[.p (.sc (.string (br (aF cs (aJ i*1)))))],[],.p (.sc (.bool ok)),[]⟩
 (.test (ok)
 (.out (.ret (sI .i64 (↑i:Int)) []))
 (.at (ak acb env 107 0 [.p (.ps k 1 cs),.fn (acm 57) [] [],sI .i64 (↑k:Int),sI .i64 (sb.wrap ((↑i:Int)+1))] ([]) 0 19))))))
 (.out (.ret (sI .i64 (-1)) [])))
theorem D8 (k:Nat) (i:Nat) (cs:List PV) (ok:Bool):grow acb env (VI k i cs ok) 1000000 true (ak acb env 107 0 ([AV.p (PV.ps k 1 cs),AV.fn (acm 57) [] [],sI sb (↑k:Int),sI sb (↑i:Int)]) ([]) 0 19) ZO atEnd=Cw k i cs ok:=by kernel_rfl
def Rr:bH:=aT aH aA [(107,0)] [] []
def VJ:Sc:= .fin
def MO (k:Nat) (cs:List PV):az:=
 (.at (ak acb env 107 0 [.p (.ps k 1 cs),.fn (acm 66) [] [],sI .i64 (↑k:Int),sI .i64 0] ([]) 0 19))
theorem JV (k:Nat) (cs:List PV):aG acb env Rr 1000000 107 ([AV.p (PV.ps k 1 cs),AV.fn (acm 66) [] []]) ([]) VJ=MO k cs:=by kernel_rfl
def VK (k:Nat) (i:Nat) (cs:List PV) (ok:Bool):bH:=aT (adl k i cs ok) aA [(107,0)] [(107,0,1),(107,0,2)] [(107,5,3),(107,5,4)]
def ZP:Sc:= .fin
def Cx (k:Nat) (i:Nat) (cs:List PV) (ok:Bool):az:=
 (.test (decide ((↑i:Int)<(↑k:Int)))
 (.must (aW (↑i:Int) k&&true&&true)
 (.must (isStr (aF cs (aJ i*1))&&true)
 (.call ⟨66,[.p (.sc (.string (br (aF cs (aJ i*1)))))],[],.p (.sc (.bool ok)),[]⟩
 (.test (ok)
 (.out (.ret (sI .i64 (↑i:Int)) []))
 (.at (ak acb env 107 0 [.p (.ps k 1 cs),.fn (acm 66) [] [],sI .i64 (↑k:Int),sI .i64 (sb.wrap ((↑i:Int)+1))] ([]) 0 19))))))
 (.out (.ret (sI .i64 (-1)) [])))
theorem D9 (k:Nat) (i:Nat) (cs:List PV) (ok:Bool):grow acb env (VK k i cs ok) 1000000 true (ak acb env 107 0 ([AV.p (PV.ps k 1 cs),AV.fn (acm 66) [] [],sI sb (↑k:Int),sI sb (↑i:Int)]) ([]) 0 19) ZP atEnd=Cx k i cs ok:=by kernel_rfl
def Rs:bH:=aT aH aA [(108,0)] [] []
def VL:Sc:= .fin
def MP (k:Nat) (cs:List PV):az:=
 (.at (ak acb env 108 0 [.p (.ps k 2 cs),.fn (acm 59) [] [],sI .i64 (↑k:Int),sI .i64 0] ([]) 0 19))
theorem JW (k:Nat) (cs:List PV):aG acb env Rs 1000000 108 ([AV.p (PV.ps k 2 cs),AV.fn (acm 59) [] []]) ([]) VL=MP k cs:=by kernel_rfl
def VM (k:Nat) (i:Nat) (cs:List PV) (ok:Bool):bH:=aT (adm k i cs ok) aA [(108,0)] [(108,0,1),(108,0,2)] [(108,5,3),(108,5,4)]
def ZQ:Sc:= .fin
def Cy (k:Nat) (i:Nat) (cs:List PV) (ok:Bool):az:=
 (.test (decide ((↑i:Int)<(↑k:Int)))
 (.must (aW (↑i:Int) k&&true&&true)
 (.must (isInt sb (aF cs (aJ i*2))&&(isInt sb (aF cs (aJ i*2+1))&&true)&&true)
 (.call ⟨59,[.agg [sI .i64 (av (aF cs (aJ i*2))),sI .i64 (av (aF cs (aJ i*2+1)))]],[],.p (.sc (.bool ok)),[]⟩
 (.test (ok)
 (.out (.ret (sI .i64 (↑i:Int)) []))
 (.at (ak acb env 108 0 [.p (.ps k 2 cs),.fn (acm 59) [] [],sI .i64 (↑k:Int),sI .i64 (sb.wrap ((↑i:Int)+1))] ([]) 0 19))))))
 (.out (.ret (sI .i64 (-1)) [])))
theorem Ea (k:Nat) (i:Nat) (cs:List PV) (ok:Bool):grow acb env (VM k i cs ok) 1000000 true (ak acb env 108 0 ([AV.p (PV.ps k 2 cs),AV.fn (acm 59) [] [],sI sb (↑k:Int),sI sb (↑i:Int)]) ([]) 0 19) ZQ atEnd=Cy k i cs ok:=by kernel_rfl
def Rt:bH:=aT aH aA [(109,0)] [] []
def VN:Sc:= .fin
def MQ (k:Nat) (cs:List PV):az:=
 (.at (ak acb env 109 0 [.p (.ps k 3 cs),.fn (acm 62) [] [],sI .i64 (↑k:Int),sI .i64 0] ([]) 0 19))
theorem JX (k:Nat) (cs:List PV):aG acb env Rt 1000000 109 ([AV.p (PV.ps k 3 cs),AV.fn (acm 62) [] []]) ([]) VN=MQ k cs:=by kernel_rfl
def VO (k:Nat) (i:Nat) (cs:List PV) (ok:Bool):bH:=aT (adn k i cs ok) aA [(109,0)] [(109,0,1),(109,0,2)] [(109,5,3),(109,5,4)]
def ZR:Sc:= .fin
def Cz (k:Nat) (i:Nat) (cs:List PV) (ok:Bool):az:=
 (.test (decide ((↑i:Int)<(↑k:Int)))
 (.must (aW (↑i:Int) k&&true&&true)
 (.must (isStr (aF cs (aJ i*3))&&(isStr (aF cs (aJ i*3+1))&&(isInt sb (aF cs (aJ i*3+1+1))&&true))&&true)
 (.call ⟨62,[.agg [.p (.sc (.string (br (aF cs (aJ i*3))))),.p (.sc (.string (br (aF cs (aJ i*3+1))))),sI .i64 (av (aF cs (aJ i*3+1+1)))]],[],.p (.sc (.bool ok)),[]⟩
 (.test (ok)
 (.out (.ret (sI .i64 (↑i:Int)) []))
 (.at (ak acb env 109 0 [.p (.ps k 3 cs),.fn (acm 62) [] [],sI .i64 (↑k:Int),sI .i64 (sb.wrap ((↑i:Int)+1))] ([]) 0 19))))))
 (.out (.ret (sI .i64 (-1)) [])))
theorem Eb (k:Nat) (i:Nat) (cs:List PV) (ok:Bool):grow acb env (VO k i cs ok) 1000000 true (ak acb env 109 0 ([AV.p (PV.ps k 3 cs),AV.fn (acm 62) [] [],sI sb (↑k:Int),sI sb (↑i:Int)]) ([]) 0 19) ZR atEnd=Cz k i cs ok:=by kernel_rfl
def Ru:bH:=aT aH aA [(110,0)] [] []
def VQ:Sc:= .fin
def MR (k:Nat) (cs:List PV):az:=
 (.at (ak acb env 110 0 [.p (.ps k 3 cs),.fn (acm 65) [] [],sI .i64 (↑k:Int),sI .i64 0] ([]) 0 19))
theorem JY (k:Nat) (cs:List PV):aG acb env Ru 1000000 110 ([AV.p (PV.ps k 3 cs),AV.fn (acm 65) [] []]) ([]) VQ=MR k cs:=by kernel_rfl
def VS (k:Nat) (i:Nat) (cs:List PV) (ok:Bool):bH:=aT (ado k i cs ok) aA [(110,0)] [(110,0,1),(110,0,2)] [(110,5,3),(110,5,4)]
def ZS:Sc:= .fin
def CA (k:Nat) (i:Nat) (cs:List PV) (ok:Bool):az:=
 (.test (decide ((↑i:Int)<(↑k:Int)))
 (.must (aW (↑i:Int) k&&true&&true)
 (.must (isInt sb (aF cs (aJ i*3))&&(isInt sb (aF cs (aJ i*3+1))&&(bB (aF cs (aJ i*3+1+1))&&true))&&true)
 (.call ⟨65,[.agg [sI .i64 (av (aF cs (aJ i*3))),sI .i64 (av (aF cs (aJ i*3+1))),.p (.ps (aE (aF cs (aJ i*3+1+1))) (bC (aF cs (aJ i*3+1+1))) (aB (aF cs (aJ i*3+1+1))))]],[],.p (.sc (.bool ok)),[]⟩
 (.test (ok)
 (.out (.ret (sI .i64 (↑i:Int)) []))
 (.at (ak acb env 110 0 [.p (.ps k 3 cs),.fn (acm 65) [] [],sI .i64 (↑k:Int),sI .i64 (sb.wrap ((↑i:Int)+1))] ([]) 0 19))))))
 (.out (.ret (sI .i64 (-1)) [])))
theorem Ec (k:Nat) (i:Nat) (cs:List PV) (ok:Bool):grow acb env (VS k i cs ok) 1000000 true (ak acb env 110 0 ([AV.p (PV.ps k 3 cs),AV.fn (acm 65) [] [],sI sb (↑k:Int),sI sb (↑i:Int)]) ([]) 0 19) ZS atEnd=CA k i cs ok:=by kernel_rfl
def Rx:bH:=aT aH aA [(112,0)] [] []
def VT:Sc:= .fin
def MS (k:Nat) (cs:List PV):az:=
 (.at (ak acb env 112 0 [.p (.ps k 3 cs),.fn (acm 69) [] [],sI .i64 (↑k:Int),sI .i64 0] ([]) 0 19))
theorem JZ (k:Nat) (cs:List PV):aG acb env Rx 1000000 112 ([AV.p (PV.ps k 3 cs),AV.fn (acm 69) [] []]) ([]) VT=MS k cs:=by kernel_rfl
def VU (k:Nat) (i:Nat) (cs:List PV) (ok:Bool):bH:=aT (adp k i cs ok) aA [(112,0)] [(112,0,1),(112,0,2)] [(112,5,3),(112,5,4)]
def ZT:Sc:= .fin
def CB (k:Nat) (i:Nat) (cs:List PV) (ok:Bool):az:=
 (.test (decide ((↑i:Int)<(↑k:Int)))
 (.must (aW (↑i:Int) k&&true&&true)
 (.must (isInt abY (aF cs (aJ i*3))&&(isInt abY (aF cs (aJ i*3+1))&&(isBool (aF cs (aJ i*3+1+1))&&true))&&true)
 (.call ⟨69,[.agg [sI .u32 (av (aF cs (aJ i*3))),sI .u32 (av (aF cs (aJ i*3+1))),.p (.sc (.bool (bD (aF cs (aJ i*3+1+1)))))]],[],.p (.sc (.bool ok)),[]⟩
 (.test (ok)
 (.out (.ret (sI .i64 (↑i:Int)) []))
 (.at (ak acb env 112 0 [.p (.ps k 3 cs),.fn (acm 69) [] [],sI .i64 (↑k:Int),sI .i64 (sb.wrap ((↑i:Int)+1))] ([]) 0 19))))))
 (.out (.ret (sI .i64 (-1)) [])))
theorem Ed (k:Nat) (i:Nat) (cs:List PV) (ok:Bool):grow acb env (VU k i cs ok) 1000000 true (ak acb env 112 0 ([AV.p (PV.ps k 3 cs),AV.fn (acm 69) [] [],sI sb (↑k:Int),sI sb (↑i:Int)]) ([]) 0 19) ZT atEnd=CB k i cs ok:=by kernel_rfl
def Ry:bH:=aT aH aA [(112,0)] [] []
def VV:Sc:= .fin
def MT (k:Nat) (cs:List PV):az:=
 (.at (ak acb env 112 0 [.p (.ps k 3 cs),.fn (acm 71) [] [],sI .i64 (↑k:Int),sI .i64 0] ([]) 0 19))
theorem J0 (k:Nat) (cs:List PV):aG acb env Ry 1000000 112 ([AV.p (PV.ps k 3 cs),AV.fn (acm 71) [] []]) ([]) VV=MT k cs:=by kernel_rfl
def VW (k:Nat) (i:Nat) (cs:List PV) (ok:Bool):bH:=aT (adq k i cs ok) aA [(112,0)] [(112,0,1),(112,0,2)] [(112,5,3),(112,5,4)]
def ZU:Sc:= .fin
def CC (k:Nat) (i:Nat) (cs:List PV) (ok:Bool):az:=
 (.test (decide ((↑i:Int)<(↑k:Int)))
 (.must (aW (↑i:Int) k&&true&&true)
 (.must (isInt abY (aF cs (aJ i*3))&&(isInt abY (aF cs (aJ i*3+1))&&(isBool (aF cs (aJ i*3+1+1))&&true))&&true)
 (.call ⟨71,[.agg [sI .u32 (av (aF cs (aJ i*3))),sI .u32 (av (aF cs (aJ i*3+1))),.p (.sc (.bool (bD (aF cs (aJ i*3+1+1)))))]],[],.p (.sc (.bool ok)),[]⟩
 (.test (ok)
 (.out (.ret (sI .i64 (↑i:Int)) []))
 (.at (ak acb env 112 0 [.p (.ps k 3 cs),.fn (acm 71) [] [],sI .i64 (↑k:Int),sI .i64 (sb.wrap ((↑i:Int)+1))] ([]) 0 19))))))
 (.out (.ret (sI .i64 (-1)) [])))
theorem Ee (k:Nat) (i:Nat) (cs:List PV) (ok:Bool):grow acb env (VW k i cs ok) 1000000 true (ak acb env 112 0 ([AV.p (PV.ps k 3 cs),AV.fn (acm 71) [] [],sI sb (↑k:Int),sI sb (↑i:Int)]) ([]) 0 19) ZU atEnd=CC k i cs ok:=by kernel_rfl
def Rz:bH:=aT aH aA [(25,0)] [] []
def VX:Sc:= .fin
def MU (k:Nat) (cs:List PV):az:=
 (.at (ak acb env 25 0 [.p (.ps k 3 cs),.fn (acm 73) [] [],sI .i64 (↑k:Int),sI .i64 0] ([]) 0 19))
theorem J1 (k:Nat) (cs:List PV):aG acb env Rz 1000000 25 ([AV.p (PV.ps k 3 cs),AV.fn (acm 73) [] []]) ([]) VX=MU k cs:=by kernel_rfl
def VY (k:Nat) (i:Nat) (cs:List PV) (ok:Bool):bH:=aT (adr k i cs ok) aA [(25,0)] [(25,0,1),(25,0,2)] [(25,5,3),(25,5,4)]
def ZV:Sc:= .fin
def CD (k:Nat) (i:Nat) (cs:List PV) (ok:Bool):az:=
 (.test (decide ((↑i:Int)<(↑k:Int)))
 (.must (aW (↑i:Int) k&&true&&true)
 (.must (isStr (aF cs (aJ i*3))&&(isInt sb (aF cs (aJ i*3+1))&&(isInt abY (aF cs (aJ i*3+1+1))&&true))&&true)
 (.call ⟨73,[.agg [.p (.sc (.string (br (aF cs (aJ i*3))))),sI .i64 (av (aF cs (aJ i*3+1))),sI .u32 (av (aF cs (aJ i*3+1+1)))]],[],.p (.sc (.bool ok)),[]⟩
 (.test (ok)
 (.out (.ret (sI .i64 (↑i:Int)) []))
 (.at (ak acb env 25 0 [.p (.ps k 3 cs),.fn (acm 73) [] [],sI .i64 (↑k:Int),sI .i64 (sb.wrap ((↑i:Int)+1))] ([]) 0 19))))))
 (.out (.ret (sI .i64 (-1)) [])))
theorem Ef (k:Nat) (i:Nat) (cs:List PV) (ok:Bool):grow acb env (VY k i cs ok) 1000000 true (ak acb env 25 0 ([AV.p (PV.ps k 3 cs),AV.fn (acm 73) [] [],sI sb (↑k:Int),sI sb (↑i:Int)]) ([]) 0 19) ZV atEnd=CD k i cs ok:=by kernel_rfl
def VZ (k:Nat) (cs:List PV) (r:Int):bH:=aT (ads k cs r) aA [] [] []
def ZW:Sc:= .fin
def HW (k:Nat) (cs:List PV) (r:Int):az:=
 (.call ⟨105,[.p (.ps k 2 cs),.fn (acm 53) [] []],[],sI .i64 r,[]⟩
 (.out (.ret (.p (.sc (.bool (decide (r≥0))))) [])))
theorem MV (k:Nat) (cs:List PV) (r:Int):aG acb env (VZ k cs r) 1000000 52 ([AV.p (PV.ps k 2 cs),AV.fn (acm 53) [] []]) ([]) ZW=HW k cs r:=by kernel_rfl
def V0 (k:Nat) (cs:List PV) (r:Int):bH:=aT (adt k cs r) aA [] [] []
def ZX:Sc:= .fin
def HX (k:Nat) (cs:List PV) (r:Int):az:=
 (.call ⟨107,[.p (.ps k 1 cs),.fn (acm 57) [] []],[],sI .i64 r,[]⟩
 (.out (.ret (.p (.sc (.bool (decide (r≥0))))) [])))
theorem MW (k:Nat) (cs:List PV) (r:Int):aG acb env (V0 k cs r) 1000000 55 ([AV.p (PV.ps k 1 cs),AV.fn (acm 57) [] []]) ([]) ZX=HX k cs r:=by kernel_rfl
def V1 (k:Nat) (cs:List PV) (r:Int):bH:=aT (adu k cs r) aA [] [] []
def ZY:Sc:= .fin
def HY (k:Nat) (cs:List PV) (r:Int):az:=
 (.call ⟨107,[.p (.ps k 1 cs),.fn (acm 66) [] []],[],sI .i64 r,[]⟩
 (.out (.ret (.p (.sc (.bool (decide (r≥0))))) [])))
theorem MX (k:Nat) (cs:List PV) (r:Int):aG acb env (V1 k cs r) 1000000 55 ([AV.p (PV.ps k 1 cs),AV.fn (acm 66) [] []]) ([]) ZY=HY k cs r:=by kernel_rfl
def V2 (k:Nat) (cs:List PV) (r:Int):bH:=aT (adv k cs r) aA [] [] []
def ZZ:Sc:= .fin
def HZ (k:Nat) (cs:List PV) (r:Int):az:=
 (.call ⟨108,[.p (.ps k 2 cs),.fn (acm 59) [] []],[],sI .i64 r,[]⟩
 (.out (.ret (.p (.sc (.bool (decide (r≥0))))) [])))
theorem MY (k:Nat) (cs:List PV) (r:Int):aG acb env (V2 k cs r) 1000000 58 ([AV.p (PV.ps k 2 cs),AV.fn (acm 59) [] []]) ([]) ZZ=HZ k cs r:=by kernel_rfl
def V3 (k:Nat) (cs:List PV) (r:Int):bH:=aT (adw k cs r) aA [] [] []
def Z0:Sc:= .fin
def H6 (k:Nat) (cs:List PV) (r:Int):az:=
 (.call ⟨109,[.p (.ps k 3 cs),.fn (acm 62) [] []],[],sI .i64 r,[]⟩
 (.out (.ret (.p (.sc (.bool (decide (r≥0))))) [])))
theorem MZ (k:Nat) (cs:List PV) (r:Int):aG acb env (V3 k cs r) 1000000 61 ([AV.p (PV.ps k 3 cs),AV.fn (acm 62) [] []]) ([]) Z0=H6 k cs r:=by kernel_rfl
def V4 (k:Nat) (cs:List PV) (r:Int):bH:=aT (adx k cs r) aA [] [] []
def Z1:Sc:= .fin
def H7 (k:Nat) (cs:List PV) (r:Int):az:=
 (.call ⟨110,[.p (.ps k 3 cs),.fn (acm 65) [] []],[],sI .i64 r,[]⟩
 (.out (.ret (.p (.sc (.bool (decide (r≥0))))) [])))
theorem M0 (k:Nat) (cs:List PV) (r:Int):aG acb env (V4 k cs r) 1000000 64 ([AV.p (PV.ps k 3 cs),AV.fn (acm 65) [] []]) ([]) Z1=H7 k cs r:=by kernel_rfl
def V5 (k:Nat) (cs:List PV) (r:Int):bH:=aT (ady k cs r) aA [] [] []
def Z2:Sc:= .fin
def H8 (k:Nat) (cs:List PV) (r:Int):az:=
 (.call ⟨112,[.p (.ps k 3 cs),.fn (acm 69) [] []],[],sI .i64 r,[]⟩
 (.out (.ret (.p (.sc (.bool (decide (r≥0))))) [])))
theorem M1 (k:Nat) (cs:List PV) (r:Int):aG acb env (V5 k cs r) 1000000 68 ([AV.p (PV.ps k 3 cs),AV.fn (acm 69) [] []]) ([]) Z2=H8 k cs r:=by kernel_rfl
def V6 (k:Nat) (cs:List PV) (r:Int):bH:=aT (adz k cs r) aA [] [] []
def Z3:Sc:= .fin
def H9 (k:Nat) (cs:List PV) (r:Int):az:=
 (.call ⟨112,[.p (.ps k 3 cs),.fn (acm 71) [] []],[],sI .i64 r,[]⟩
 (.out (.ret (.p (.sc (.bool (decide (r≥0))))) [])))
theorem M3 (k:Nat) (cs:List PV) (r:Int):aG acb env (V6 k cs r) 1000000 68 ([AV.p (PV.ps k 3 cs),AV.fn (acm 71) [] []]) ([]) Z3=H9 k cs r:=by kernel_rfl
def V7 (k:Nat) (cs:List PV) (r:Int):bH:=aT (adA k cs r) aA [] [] []
def Z4:Sc:= .fin
def Ia (k:Nat) (cs:List PV) (r:Int):az:=
 (.call ⟨25,[.p (.ps k 3 cs),.fn (acm 73) [] []],[],sI .i64 r,[]⟩
 (.out (.ret (.p (.sc (.bool (decide (r≥0))))) [])))
theorem M4 (k:Nat) (cs:List PV) (r:Int):aG acb env (V7 k cs r) 1000000 72 ([AV.p (PV.ps k 3 cs),AV.fn (acm 73) [] []]) ([]) Z4=Ia k cs r:=by kernel_rfl
def V8:bH:=aT aH aA [] [(60,0,0)] []
def Z5:Sc:= .fin
def Ib (p r:Int):az:=
 (.test (!(fun r=>(p==bif true then aco (bif false then aco p 0 else acx p 0) 255 else acx (bif false then aco p 0 else acx p 0) 255)&&r) ((fun r_1=>(r==bif true then aco (bif false then aco r 0 else acx r 0) 1 else acx (bif false then aco r 0 else acx r 0) 1)&&r_1) true))
 (.out (.ret (sI .i64 2) []))
 (.out (.ret (sI .i64 0) [])))
theorem M5 (p r:Int):aG acb env V8 1000000 60 ([AV.agg [sI sb p,sI sb r]]) ([]) Z5=Ib p r:=by kernel_rfl
def V9:bH:=aT aH aA [] [(70,2,5),(70,2,8),(70,2,14),(70,2,22),(70,2,26),(70,0,0)] []
def Z6:Sc:=(.fork (.lit (.lit .fin)) (.fork (.fork (.lit (.lit .fin)) (.fork (.lit .fin) (.no (.lit .fin)))) (.lit (.yes .fin))))
def Ic (mn mx:Int) (cap:Bool) (most:Int):az:=
 (.test (decide (mn>most))
 (.out (.ret (sI .i64 2) []))
 (.test (cap)
 (.test (decide (mx<mn))
 (.out (.ret (sI .i64 2) []))
 (.test (decide (mx>most))
 (.out (.ret (sI .i64 2) []))
 (.must (!(!cap))
 (.out (.ret (sI .i64 0) [])))))
 (.must (!cap)
 (.test (mx != 0)
 (.out (.ret (sI .i64 2) []))
 (.out (.ret (sI .i64 0) []))))))
theorem M6 (mn mx:Int) (cap:Bool) (most:Int):aG acb env V9 1000000 70 ([AV.agg [sI abY mn,sI abY mx,sB cap],sI abY most]) ([]) Z6=Ic mn mx cap most:=by kernel_rfl
def Wa:bH:=aT aH aA [] [] []
def Z7:Sc:= .fin
def RA (x:El):az:=
 (.out (.ret (.p (.sc (.bool (decide ((↑x.fs.length:Int)>16384))))) []))
theorem M7 (x:El):aG acb env Wa 1000000 53 ([AV.agg (ab6 AV.p (bA x))]) ([]) Z7=RA x:=by kernel_rfl
def Wb:bH:=aT aH aA [] [] []
def Z8:Sc:= .fin
def RB (s:ByteArray):az:=
 (.out (.ret (.p (.sc (.bool (decide ((↑s.data.toList.length:Int)>1000))))) []))
theorem M8 (s:ByteArray):aG acb env Wb 1000000 57 ([AV.p (PV.sc (Value.string s))]) ([]) Z8=RB s:=by kernel_rfl
def Wc (s:ByteArray) (r:Int):bH:=aT (adB s r) aA [] [] []
def Z9:Sc:= .fin
def RC (s:ByteArray) (r:Int):az:=
 (.call ⟨67,[.os (some 0) s.data.toList.length 1 (ab6 mm s.data.toList)],[.tok],sI .i64 r,[.tok]⟩
 (.out (.ret (.p (.sc (.bool (decide (r≥0))))) [])))
theorem M9 (s:ByteArray) (r:Int):aG acb env (Wc s r) 1000000 66 ([AV.p (PV.sc (Value.string s))]) ([]) Z9=RC s r:=by kernel_rfl
def Wd (x:Ty) (e:Int):bH:=aT (adC x e) aA [] [] []
def aaa:Sc:= .fin
def RD (x:Ty) (e:Int):az:=
 (.call ⟨60,[.agg [sI .i64 x.p,sI .i64 x.r]],[],sI .i64 e,[]⟩
 (.out (.ret (.p (.sc (.bool (e != 0)))) [])))
theorem Na (x:Ty) (e:Int):aG acb env (Wd x e) 1000000 59 ([AV.agg (ab6 AV.p (cP x))]) ([]) aaa=RD x e:=by kernel_rfl
def We:bH:=aT aH aA [] [(63,2,3)] []
def aab:Sc:= .fin
def Ie (x:Im):az:=
 (.test (decide (x.ty≥0))
 (.out (.ret (.p (.sc (.bool !decide (x.ty≤2147483647)))) []))
 F1)
theorem Nb (x:Im):aG acb env We 1000000 62 ([AV.agg (ab6 AV.p (bK x))]) ([]) aab=Ie x:=by kernel_rfl
def Wf (x:Li) (e:Int):bH:=aT (ZM x e) aA [] [] []
def aac:Sc:= .fin
def RE (x:Li) (e:Int):az:=
 (.call ⟨70,[.agg [sI .u32 x.mn,sI .u32 x.mx,.p (.sc (.bool x.cap))],sI .u32 1048576],[],sI .i64 e,[]⟩
 (.out (.ret (.p (.sc (.bool (e != 0)))) [])))
theorem Nc (x:Li) (e:Int):aG acb env (Wf x e) 1000000 69 ([AV.agg (ab6 AV.p (bN x))]) ([]) aac=RE x e:=by kernel_rfl
def Wg (x:Li) (e:Int):bH:=aT (ZM x e) aA [] [] []
def aad:Sc:= .fin
def RF (x:Li) (e:Int):az:=
 (.call ⟨70,[.agg [sI .u32 x.mn,sI .u32 x.mx,.p (.sc (.bool x.cap))],sI .u32 65536],[],sI .i64 e,[]⟩
 (.out (.ret (.p (.sc (.bool (e != 0)))) [])))
theorem Nd (x:Li) (e:Int):aG acb env (Wg x e) 1000000 71 ([AV.agg (ab6 AV.p (bN x))]) ([]) aad=RF x e:=by kernel_rfl
def Wh:bH:=aT aH aA [] [(73,2,4)] []
def aae:Sc:= .fin
def Ig (x:Ex):az:=
 (.test (decide (x.kind<0))
 F1
 (.out (.ret (.p (.sc (.bool (decide (x.kind>3))))) [])))
theorem Nf (x:Ex):aG acb env Wh 1000000 73 ([AV.agg (ab6 AV.p (aS x))]) ([]) aae=Ig x:=by kernel_rfl
def Wi:bH:=aT aH aA [] [(63,2,3),(65,2,5),(65,2,11)] []
def aaf:Sc:=(.fork (.fork (.lit .fin) .fin) (.lit (.lit .fin)))
def Ih (x:Fu):az:=
 (.test (decide (x.ty≥0))
 (.test (!decide (x.ty≤2147483647))
 F1
 (.test (decide (x.lo<0))
 F1
 (.out (.ret (.p (.sc (.bool (decide (x.lo>50000))))) []))))
 F1)
theorem Ng (x:Fu):aG acb env Wi 1000000 65 ([AV.agg (ab6 AV.p (bG x))]) ([]) aaf=Ih x:=by kernel_rfl
def Wj (M:Mo) (e:Int) (n:Nat) (cs:List PV):bH:=aT (liC M e n cs) aA [(54,0)] [] []
def aag:Sc:= .fin
def RG (M:Mo) (e:Int) (n:Nat) (cs:List PV):az:=
 (.call ⟨34,[.agg (ab6 AV.p M.aI)],[],.p (.ps n 1 cs),[]⟩
 (.at (ak acb env 54 0 [sI .i64 e,.p (.ps n 1 cs),sI .i64 (↑n:Int),sI .i64 0] ([]) 0 20)))
theorem Nh (M:Mo) (e:Int) (n:Nat) (cs:List PV):aG acb env (Wj M e n cs) 1000000 54 ([AV.agg (ab6 AV.p M.aI),sI sb e]) ([]) aag=RG M e n cs:=by kernel_rfl
def Wk (e:Int) (k:Nat) (i:Nat) (cs:List PV) (r:Int):bH:=aT (adD e k i cs r) aA [(54,0)] [(54,0,1),(54,0,2)] [(54,4,0),(54,4,1)]
def aah:Sc:= .fin
def CE (e:Int) (k:Nat) (i:Nat) (cs:List PV) (r:Int):az:=
 (.test (decide ((↑i:Int)<(↑k:Int)))
 (.must (aW (↑i:Int) k&&true&&true)
 (.must (bB (aF cs (aJ i*1))&&true)
 (.call ⟨106,[.p (.ps (aE (aF cs (aJ i*1))) (bC (aF cs (aJ i*1))) (aB (aF cs (aJ i*1))))],[],sI .i64 r,[]⟩
 (.test (r==e)
 (.out (.ret (sI .i64 e) []))
 (.at (ak acb env 54 0 [sI .i64 e,.p (.ps k 1 cs),sI .i64 (↑k:Int),sI .i64 (sb.wrap ((↑i:Int)+1))] ([]) 0 20))))))
 (.out (.ret (sI .i64 0) [])))
theorem Eg (e:Int) (k:Nat) (i:Nat) (cs:List PV) (r:Int):grow acb env (Wk e k i cs r) 1000000 true (ak acb env 54 0 ([sI sb e,AV.p (PV.ps k 1 cs),sI sb (↑k:Int),sI sb (↑i:Int)]) ([]) 0 20) aah atEnd=CE e k i cs r:=by kernel_rfl
def Wl:bH:=aT aH aA [(28,0)] [] []
def aai:Sc:= .fin
def RH (M:Mo):az:=
 (.at (ak acb env 28 0 [.mp 0 0,sI .i64 1048576,.p (.ps M.bk.length 2 (aem bU M.bk)),sI .i64 (↑M.bk.length:Int),sI .i64 0] ([.pc M.aI]) 0 29))
theorem Ni (M:Mo):aG acb env Wl 1000000 28 ([AV.agg (ab6 AV.p M.aI)]) ([]) aai=RH M:=by kernel_rfl
def Wm (M:Mo) (k:Nat) (i:Nat) (left:Int) (cs:List PV) (n:Nat) (ns:List PV) (lg:Bool):bH:=aT (loC M k i left cs n ns lg) aA [(28,0)] [(28,0,1),(28,8,3),(28,0,2)] [(28,5,0),(28,5,1)]
def aaj:Sc:=(.fork .fin (.fork (.lit .fin) .fin))
def CF (M:Mo) (k:Nat) (i:Nat) (left:Int) (cs:List PV) (n:Nat) (ns:List PV) (lg:Bool):az:=
 (.test (decide ((↑i:Int)<(↑k:Int)))
 (.must (aW (↑i:Int) k&&true&&true)
 (.must (bB (aF cs (aJ i*2))&&(bB (aF cs (aJ i*2+1))&&true)&&true)
 (.at (ak acb env 28 0 [.mp 0 0,sI .i64 (sb.wrap (left-bif true then aco (↑(aE (aF cs (aJ i*2+1))):Int) (sb.wrap (left+1)) else acx (↑(aE (aF cs (aJ i*2+1))):Int) (sb.wrap (left+1)))),.p (.ps k 2 cs),sI .i64 (↑k:Int),sI .i64 (sb.wrap ((↑i:Int)+1))] ([.pc M.aI]) 0 29))))
 (.test (decide (left<0))
 (.out (.ret (sI .i64 3) []))
 (.call ⟨56,[.agg (ab6 AV.p M.aI)],[],.p (.ps n 1 ns),[]⟩
 (.call ⟨55,[.p (.ps n 1 ns),.fn (acm 57) [] []],[],.p (.sc (.bool lg)),[]⟩
 (.test (lg)
 (.out (.ret (sI .i64 3) []))
 (.out (.ret (sI .i64 0) [])))))))
theorem Eh (M:Mo) (k:Nat) (i:Nat) (left:Int) (cs:List PV) (n:Nat) (ns:List PV) (lg:Bool):grow acb env (Wm M k i left cs n ns lg) 1000000 true (ak acb env 28 0 ([AV.mp 0 0,sI sb left,AV.p (PV.ps k 2 cs),sI sb (↑k:Int),sI sb (↑i:Int)]) ([aU.pc M.aI]) 0 29) aaj atEnd=CF M k i left cs n ns lg:=by kernel_rfl
def Wn (M:Mo) (b:Bool) (e:Int):bH:=aT (maC M b e) aA [] [(27,3,5),(27,3,11),(27,3,15),(27,0,0)] []
def aak:Sc:=(.fork (.lit (.lit (.lit .fin))) (.fork (.lit (.lit .fin)) (.fork (.lit .fin) .fin)))
def Ii (M:Mo) (b:Bool) (e:Int):az:=
 (.test (decide ((↑M.fR.length:Int)>1))
 (.out (.ret (sI .i64 141) []))
 (.test (decide ((↑M.gA.length:Int)>1))
 (.out (.ret (sI .i64 141) []))
 (.test (decide ((bif false then aco (bif false then aco (bif false then aco (bif false then aco (bif false then aco (bif false then aco (↑M.tys.length:Int) (↑M.aQ.length:Int) else acx (↑M.tys.length:Int) (↑M.aQ.length:Int)) (↑M.fns.length:Int) else acx (bif false then aco (↑M.tys.length:Int) (↑M.aQ.length:Int) else acx (↑M.tys.length:Int) (↑M.aQ.length:Int)) (↑M.fns.length:Int)) (↑M.gls.length:Int) else acx (bif false then aco (bif false then aco (↑M.tys.length:Int) (↑M.aQ.length:Int) else acx (↑M.tys.length:Int) (↑M.aQ.length:Int)) (↑M.fns.length:Int) else acx (bif false then aco (↑M.tys.length:Int) (↑M.aQ.length:Int) else acx (↑M.tys.length:Int) (↑M.aQ.length:Int)) (↑M.fns.length:Int)) (↑M.gls.length:Int)) (↑M.exs.length:Int) else acx (bif false then aco (bif false then aco (bif false then aco (↑M.tys.length:Int) (↑M.aQ.length:Int) else acx (↑M.tys.length:Int) (↑M.aQ.length:Int)) (↑M.fns.length:Int) else acx (bif false then aco (↑M.tys.length:Int) (↑M.aQ.length:Int) else acx (↑M.tys.length:Int) (↑M.aQ.length:Int)) (↑M.fns.length:Int)) (↑M.gls.length:Int) else acx (bif false then aco (bif false then aco (↑M.tys.length:Int) (↑M.aQ.length:Int) else acx (↑M.tys.length:Int) (↑M.aQ.length:Int)) (↑M.fns.length:Int) else acx (bif false then aco (↑M.tys.length:Int) (↑M.aQ.length:Int) else acx (↑M.tys.length:Int) (↑M.aQ.length:Int)) (↑M.fns.length:Int)) (↑M.gls.length:Int)) (↑M.exs.length:Int)) (↑M.els.length:Int) else acx (bif false then aco (bif false then aco (bif false then aco (bif false then aco (↑M.tys.length:Int) (↑M.aQ.length:Int) else acx (↑M.tys.length:Int) (↑M.aQ.length:Int)) (↑M.fns.length:Int) else acx (bif false then aco (↑M.tys.length:Int) (↑M.aQ.length:Int) else acx (↑M.tys.length:Int) (↑M.aQ.length:Int)) (↑M.fns.length:Int)) (↑M.gls.length:Int) else acx (bif false then aco (bif false then aco (↑M.tys.length:Int) (↑M.aQ.length:Int) else acx (↑M.tys.length:Int) (↑M.aQ.length:Int)) (↑M.fns.length:Int) else acx (bif false then aco (↑M.tys.length:Int) (↑M.aQ.length:Int) else acx (↑M.tys.length:Int) (↑M.aQ.length:Int)) (↑M.fns.length:Int)) (↑M.gls.length:Int)) (↑M.exs.length:Int) else acx (bif false then aco (bif false then aco (bif false then aco (↑M.tys.length:Int) (↑M.aQ.length:Int) else acx (↑M.tys.length:Int) (↑M.aQ.length:Int)) (↑M.fns.length:Int) else acx (bif false then aco (↑M.tys.length:Int) (↑M.aQ.length:Int) else acx (↑M.tys.length:Int) (↑M.aQ.length:Int)) (↑M.fns.length:Int)) (↑M.gls.length:Int) else acx (bif false then aco (bif false then aco (↑M.tys.length:Int) (↑M.aQ.length:Int) else acx (↑M.tys.length:Int) (↑M.aQ.length:Int)) (↑M.fns.length:Int) else acx (bif false then aco (↑M.tys.length:Int) (↑M.aQ.length:Int) else acx (↑M.tys.length:Int) (↑M.aQ.length:Int)) (↑M.fns.length:Int)) (↑M.gls.length:Int)) (↑M.exs.length:Int)) (↑M.els.length:Int)) (↑M.bk.length:Int) else acx (bif false then aco (bif false then aco (bif false then aco (bif false then aco (bif false then aco (↑M.tys.length:Int) (↑M.aQ.length:Int) else acx (↑M.tys.length:Int) (↑M.aQ.length:Int)) (↑M.fns.length:Int) else acx (bif false then aco (↑M.tys.length:Int) (↑M.aQ.length:Int) else acx (↑M.tys.length:Int) (↑M.aQ.length:Int)) (↑M.fns.length:Int)) (↑M.gls.length:Int) else acx (bif false then aco (bif false then aco (↑M.tys.length:Int) (↑M.aQ.length:Int) else acx (↑M.tys.length:Int) (↑M.aQ.length:Int)) (↑M.fns.length:Int) else acx (bif false then aco (↑M.tys.length:Int) (↑M.aQ.length:Int) else acx (↑M.tys.length:Int) (↑M.aQ.length:Int)) (↑M.fns.length:Int)) (↑M.gls.length:Int)) (↑M.exs.length:Int) else acx (bif false then aco (bif false then aco (bif false then aco (↑M.tys.length:Int) (↑M.aQ.length:Int) else acx (↑M.tys.length:Int) (↑M.aQ.length:Int)) (↑M.fns.length:Int) else acx (bif false then aco (↑M.tys.length:Int) (↑M.aQ.length:Int) else acx (↑M.tys.length:Int) (↑M.aQ.length:Int)) (↑M.fns.length:Int)) (↑M.gls.length:Int) else acx (bif false then aco (bif false then aco (↑M.tys.length:Int) (↑M.aQ.length:Int) else acx (↑M.tys.length:Int) (↑M.aQ.length:Int)) (↑M.fns.length:Int) else acx (bif false then aco (↑M.tys.length:Int) (↑M.aQ.length:Int) else acx (↑M.tys.length:Int) (↑M.aQ.length:Int)) (↑M.fns.length:Int)) (↑M.gls.length:Int)) (↑M.exs.length:Int)) (↑M.els.length:Int) else acx (bif false then aco (bif false then aco (bif false then aco (bif false then aco (↑M.tys.length:Int) (↑M.aQ.length:Int) else acx (↑M.tys.length:Int) (↑M.aQ.length:Int)) (↑M.fns.length:Int) else acx (bif false then aco (↑M.tys.length:Int) (↑M.aQ.length:Int) else acx (↑M.tys.length:Int) (↑M.aQ.length:Int)) (↑M.fns.length:Int)) (↑M.gls.length:Int) else acx (bif false then aco (bif false then aco (↑M.tys.length:Int) (↑M.aQ.length:Int) else acx (↑M.tys.length:Int) (↑M.aQ.length:Int)) (↑M.fns.length:Int) else acx (bif false then aco (↑M.tys.length:Int) (↑M.aQ.length:Int) else acx (↑M.tys.length:Int) (↑M.aQ.length:Int)) (↑M.fns.length:Int)) (↑M.gls.length:Int)) (↑M.exs.length:Int) else acx (bif false then aco (bif false then aco (bif false then aco (↑M.tys.length:Int) (↑M.aQ.length:Int) else acx (↑M.tys.length:Int) (↑M.aQ.length:Int)) (↑M.fns.length:Int) else acx (bif false then aco (↑M.tys.length:Int) (↑M.aQ.length:Int) else acx (↑M.tys.length:Int) (↑M.aQ.length:Int)) (↑M.fns.length:Int)) (↑M.gls.length:Int) else acx (bif false then aco (bif false then aco (↑M.tys.length:Int) (↑M.aQ.length:Int) else acx (↑M.tys.length:Int) (↑M.aQ.length:Int)) (↑M.fns.length:Int) else acx (bif false then aco (↑M.tys.length:Int) (↑M.aQ.length:Int) else acx (↑M.tys.length:Int) (↑M.aQ.length:Int)) (↑M.fns.length:Int)) (↑M.gls.length:Int)) (↑M.exs.length:Int)) (↑M.els.length:Int)) (↑M.bk.length:Int))>16384))
 (.out (.ret (sI .i64 141) []))
 (.call ⟨52,[.p (.ps M.els.length 2 (aem bA M.els)),.fn (acm 53) [] []],[],.p (.sc (.bool b)),[]⟩
 (.test (b)
 (.out (.ret (sI .i64 141) []))
 (.call ⟨54,[.agg (ab6 AV.p M.aI),sI .i64 141],[],sI .i64 e,[]⟩
 (.out (.ret (sI .i64 e) []))))))))
theorem Nj (M:Mo) (b:Bool) (e:Int):aG acb env (Wn M b e) 1000000 27 ([AV.agg (ab6 AV.p M.aI)]) ([]) aak=Ii M b e:=by kernel_rfl
def Wo:bH:=aT aH aA [] [(29,3,2),(29,4,2),(29,5,2),(29,6,2),(29,7,2),(29,8,2),(29,9,2),(29,9,6),(29,0,0)] []
def aal (M:Mo) (a:Bool) (b:Bool) (c:Bool) (d:Bool) (e:Bool) (f:Bool) (g:Bool) (n:Nat) (ns:List PV) (r:Int):Sc:=(.ans 58 (.p (.sc (.bool a))) ([]) (.fork (.lit (.lit (.lit (.lit (.lit (.lit (.lit .fin))))))) (.ans 61 (.p (.sc (.bool b))) ([]) (.fork (.lit (.lit (.lit (.lit (.lit (.lit .fin)))))) (.ans 64 (.p (.sc (.bool c))) ([]) (.fork (.lit (.lit (.lit (.lit (.lit .fin))))) (.ans 56 (.p (.ps n 1 ns)) ([]) (.ans 55 (.p (.sc (.bool d))) ([]) (.fork (.lit (.lit (.lit (.lit .fin)))) (.ans 68 (.p (.sc (.bool e))) ([]) (.fork (.lit (.lit (.lit .fin))) (.ans 68 (.p (.sc (.bool f))) ([]) (.fork (.lit (.lit .fin)) (.ans 72 (.p (.sc (.bool g))) ([]) (.fork (.lit .fin) (.fork (.fork .fin (.ans 54 (sI .i64 r) ([]) .fin)) (.lit (.ans 54 (sI .i64 r) ([]) .fin))))))))))))))))))
def fT:az:=
 (.out (.ret (sI .i64 2) []))
def Ij (M:Mo) (a:Bool) (b:Bool) (c:Bool) (d:Bool) (e:Bool) (f:Bool) (g:Bool) (n:Nat) (ns:List PV) (r:Int):az:=
 (.call ⟨58,[.p (.ps M.tys.length 2 (aem cP M.tys)),.fn (acm 59) [] []],[],.p (.sc (.bool a)),[]⟩
 (.test (a)
 (fT)
 (.call ⟨61,[.p (.ps M.aQ.length 3 (aem bK M.aQ)),.fn (acm 62) [] []],[],.p (.sc (.bool b)),[]⟩
 (.test (b)
 (fT)
 (.call ⟨64,[.p (.ps M.fns.length 3 (aem bG M.fns)),.fn (acm 65) [] []],[],.p (.sc (.bool c)),[]⟩
 (.test (c)
 (fT)
 (.call ⟨56,[.agg (ab6 AV.p M.aI)],[],.p (.ps n 1 ns),[]⟩
 (.call ⟨55,[.p (.ps n 1 ns),.fn (acm 66) [] []],[],.p (.sc (.bool d)),[]⟩
 (.test (d)
 (fT)
 (.call ⟨68,[.p (.ps M.fR.length 3 (aem bN M.fR)),.fn (acm 69) [] []],[],.p (.sc (.bool e)),[]⟩
 (.test (e)
 (fT)
 (.call ⟨68,[.p (.ps M.gA.length 3 (aem bN M.gA)),.fn (acm 71) [] []],[],.p (.sc (.bool f)),[]⟩
 (.test (f)
 (fT)
 (.call ⟨72,[.p (.ps M.exs.length 3 (aem aS M.exs)),.fn (acm 73) [] []],[],.p (.sc (.bool g)),[]⟩
 (.test (g)
 (fT)
 (.test (!M.st)
 (.test (M.sn != 0)
 (fT)
 (.call ⟨54,[.agg (ab6 AV.p M.aI),sI .i64 2],[],sI .i64 r,[]⟩
 (.out (.ret (sI .i64 r) []))))
 (.call ⟨54,[.agg (ab6 AV.p M.aI),sI .i64 2],[],sI .i64 r,[]⟩
 (.out (.ret (sI .i64 r) [])))))))))))))))))))
theorem Nk (M:Mo) (a:Bool) (b:Bool) (c:Bool) (d:Bool) (e:Bool) (f:Bool) (g:Bool) (n:Nat) (ns:List PV) (r:Int):aG acb env Wo 1000000 29 ([AV.agg (ab6 AV.p M.aI)]) ([]) (aal M a b c d e f g n ns r)=Ij M a b c d e f g n ns r:=by kernel_rfl
def RI (M:Mo) (a b c:Int):bH:=aT (mcC M a b c) aA [] [(12,0,2)] []
def Wp:Sc:= .fin
def Ei (M:Mo) (a b c:Int):az:=
 (.call ⟨27,[.agg (ab6 AV.p M.aI)],[],sI .i64 a,[]⟩
 (.test (a != 0)
 (.out (.ret (sI .i64 a) []))
 (.call ⟨28,[.agg (ab6 AV.p M.aI)],[],sI .i64 b,[]⟩
 (.test (b != 0)
 (.out (.ret (sI .i64 b) []))
 (.call ⟨29,[.agg (ab6 AV.p M.aI)],[],sI .i64 c,[]⟩
 (.test (c != 0)
 (.out (.ret (sI .i64 c) []))
 (.out (.ret (sI .i64 0) []))))))))
theorem J2 (M:Mo) (a b c:Int):aG acb env (RI M a b c) 1000000 12 ([AV.agg (ab6 AV.p M.aI)]) ([]) Wp=Ei M a b c:=by kernel_rfl
def jr {α:Type} (p:α→Bool):List α→Nat→Int
 |[],_=> -1
 |x::r,i=>if p x=true then i else jr p r (i+1)
theorem iR {α:Type} (p:α→Bool) : ∀(l:List α) (i:Nat),decide (jr p l i≥0)=l.any p
 |[],_=>rfl
 |x::r,i=>by
  cases h:p x with
  |true=>simp[jr,h]
  |false=>simp only[jr,h,aeV,pj];exact iR p r (i+1)
theorem jC {α:Type} {l:List α} {p:α→Bool} {D:Nat→cw}
  (step : ∀(i:Nat) (x:α) (o:Out),l[i]? = some x→(p x=true→Out.ret (sI .i64 i) []=o)→(p x=false→cO acb env (D (i+1)) o)→cO acb env (D i) o)
  (fin:cO acb env (D l.length) (.ret (sI .i64 (-1)) [])) :
  ∀(r i:Nat),i+r=l.length→cO acb env (D i) (.ret (sI .i64 (jr p (l.drop i) i)) []):=by
 intro r
 induction r with
 |zero=>
  intro i hi
  obtain rfl:i=l.length:=by omega
  rw[aeU]
  exact fin
 |succ r ih=>
  intro i hi
  have hl:i<l.length:=by omega
  rw[aeT hl]
  refine step i l[i] _ (cb hl) (fun q=> ?_) fun q=> ?_
  · simp only[jr,q,if_true]
  · simp only[jr,q,Bool.false_eq_true,if_false]
    exact ih (i+1) (by omega)
abbrev fF (s:ByteArray):List PV:=[.sc (.string s)]
abbrev Ej (l:List Ins):List PV:=[pL l]
theorem Nl (l:List El) (hl:l.length≤10000000) (p:El→Bool) (hp : ∀x∈l,an acb env 53 [(.agg ((bA x).map .p))] [] (sB (p x)) []) :
  an acb env 105 [.p (.ps l.length 2 (l.flatMap bA)),.fn (.func 53) [] []] [] (sI .i64 (jr p l 0)) []:=by
 refine af aM (JT l.length (l.flatMap bA)) ?_
 refine jC (l:=l) (p:=p) (D:=fun i=>ak acb env 105 0 [.p (.ps l.length 2 (l.flatMap bA)),.fn (.func 53) [] [],sI .i64 l.length,sI .i64 i] [] 0 19) ?_ ?_ l.length 0 (by omega)
 · intro i x o hx h1 h2
   have hi:i<l.length:=(dp.1 hx).1
   have c:=bp (z:=2) (enc:=bA) (fun _=>rfl) hx
   have c0:(l.flatMap bA).getD (i*2) .bw=pL x.l:=c 0 (by decide)
   have c1:(l.flatMap bA).getD (i*2+1) .bw=pT .u32 x.fs:=c 1 (by decide)
   have w:sb.wrap ((i:Int)+1)=((i+1:Nat):Int):=by rw[aN (by omega) (by omega)];rfl
   have hd:decide ((i:Int)<(l.length:Int))=true:=by simp;omega
   refine aj aM (D7 l.length i (l.flatMap bA) (p x)) ?_
   simp only[Cv,bF,az.ok,isStr,isInt,bB,isBool,br,av,bD,aE,bC,aB,aW,acy,c0,c1,hd,w]
   exact⟨fun _=>⟨by first | (simp;done) | (simp;omega),rfl,hp x (mb hx),h1,h2⟩,fun q=>(by cases q)⟩
 · have hd:decide ((l.length:Int)<(l.length:Int))=false:=by simp
   refine aj aM (D7 l.length l.length (l.flatMap bA) true) ?_
   simp only[Cv,bF,az.ok,hd]
   exact⟨fun q=>(by cases q),fun _=>trivial⟩
theorem Nn (l:List El) (hl:l.length≤10000000) (p:El→Bool) (hp : ∀x∈l,an acb env 53 [(.agg ((bA x).map .p))] [] (sB (p x)) []) :
  an acb env 52 [.p (.ps l.length 2 (l.flatMap bA)),.fn (.func 53) [] []] [] (sB (l.any p)) []:=by
 refine af aM (MV l.length (l.flatMap bA) (jr p l 0)) ?_
 simp only[HW,az.ok,iR]
 exact⟨Nl l hl p hp,trivial⟩
theorem No (l:List ByteArray) (hl:l.length≤10000000) (p:ByteArray→Bool) (hp : ∀x∈l,an acb env 57 [(.p (.sc (.string x)))] [] (sB (p x)) []) :
  an acb env 107 [.p (.ps l.length 1 (l.flatMap fF)),.fn (.func 57) [] []] [] (sI .i64 (jr p l 0)) []:=by
 refine af aM (JU l.length (l.flatMap fF)) ?_
 refine jC (l:=l) (p:=p) (D:=fun i=>ak acb env 107 0 [.p (.ps l.length 1 (l.flatMap fF)),.fn (.func 57) [] [],sI .i64 l.length,sI .i64 i] [] 0 19) ?_ ?_ l.length 0 (by omega)
 · intro i x o hx h1 h2
   have hi:i<l.length:=(dp.1 hx).1
   have c:=bp (z:=1) (enc:=fF) (fun _=>rfl) hx
   have c0:(l.flatMap fF).getD (i*1) .bw = .sc (.string x):=c 0 (by decide)
   have w:sb.wrap ((i:Int)+1)=((i+1:Nat):Int):=by rw[aN (by omega) (by omega)];rfl
   have hd:decide ((i:Int)<(l.length:Int))=true:=by simp;omega
   refine aj aM (D8 l.length i (l.flatMap fF) (p x)) ?_
   simp only[Cw,bF,az.ok,isStr,isInt,bB,isBool,br,av,bD,aE,bC,aB,aW,acy,c0,hd,w]
   exact⟨fun _=>⟨by first | (simp;done) | (simp;omega),rfl,hp x (mb hx),h1,h2⟩,fun q=>(by cases q)⟩
 · have hd:decide ((l.length:Int)<(l.length:Int))=false:=by simp
   refine aj aM (D8 l.length l.length (l.flatMap fF) true) ?_
   simp only[Cw,bF,az.ok,hd]
   exact⟨fun q=>(by cases q),fun _=>trivial⟩
theorem Np (l:List ByteArray) (hl:l.length≤10000000) (p:ByteArray→Bool) (hp : ∀x∈l,an acb env 57 [(.p (.sc (.string x)))] [] (sB (p x)) []) :
  an acb env 55 [.p (.ps l.length 1 (l.flatMap fF)),.fn (.func 57) [] []] [] (sB (l.any p)) []:=by
 refine af aM (MW l.length (l.flatMap fF) (jr p l 0)) ?_
 simp only[HX,az.ok,iR]
 exact⟨No l hl p hp,trivial⟩
theorem Nq (l:List ByteArray) (hl:l.length≤10000000) (p:ByteArray→Bool) (hp : ∀x∈l,an acb env 66 [(.p (.sc (.string x)))] [] (sB (p x)) []) :
  an acb env 107 [.p (.ps l.length 1 (l.flatMap fF)),.fn (.func 66) [] []] [] (sI .i64 (jr p l 0)) []:=by
 refine af aM (JV l.length (l.flatMap fF)) ?_
 refine jC (l:=l) (p:=p) (D:=fun i=>ak acb env 107 0 [.p (.ps l.length 1 (l.flatMap fF)),.fn (.func 66) [] [],sI .i64 l.length,sI .i64 i] [] 0 19) ?_ ?_ l.length 0 (by omega)
 · intro i x o hx h1 h2
   have hi:i<l.length:=(dp.1 hx).1
   have c:=bp (z:=1) (enc:=fF) (fun _=>rfl) hx
   have c0:(l.flatMap fF).getD (i*1) .bw = .sc (.string x):=c 0 (by decide)
   have w:sb.wrap ((i:Int)+1)=((i+1:Nat):Int):=by rw[aN (by omega) (by omega)];rfl
   have hd:decide ((i:Int)<(l.length:Int))=true:=by simp;omega
   refine aj aM (D9 l.length i (l.flatMap fF) (p x)) ?_
   simp only[Cx,bF,az.ok,isStr,isInt,bB,isBool,br,av,bD,aE,bC,aB,aW,acy,c0,hd,w]
   exact⟨fun _=>⟨by first | (simp;done) | (simp;omega),rfl,hp x (mb hx),h1,h2⟩,fun q=>(by cases q)⟩
 · have hd:decide ((l.length:Int)<(l.length:Int))=false:=by simp
   refine aj aM (D9 l.length l.length (l.flatMap fF) true) ?_
   simp only[Cx,bF,az.ok,hd]
   exact⟨fun q=>(by cases q),fun _=>trivial⟩
theorem Nr (l:List ByteArray) (hl:l.length≤10000000) (p:ByteArray→Bool) (hp : ∀x∈l,an acb env 66 [(.p (.sc (.string x)))] [] (sB (p x)) []) :
  an acb env 55 [.p (.ps l.length 1 (l.flatMap fF)),.fn (.func 66) [] []] [] (sB (l.any p)) []:=by
 refine af aM (MX l.length (l.flatMap fF) (jr p l 0)) ?_
 simp only[HY,az.ok,iR]
 exact⟨Nq l hl p hp,trivial⟩
theorem Ns (l:List Ty) (hl:l.length≤10000000) (p:Ty→Bool) (hp : ∀x∈l,an acb env 59 [(.agg ((cP x).map .p))] [] (sB (p x)) []) :
  an acb env 108 [.p (.ps l.length 2 (l.flatMap cP)),.fn (.func 59) [] []] [] (sI .i64 (jr p l 0)) []:=by
 refine af aM (JW l.length (l.flatMap cP)) ?_
 refine jC (l:=l) (p:=p) (D:=fun i=>ak acb env 108 0 [.p (.ps l.length 2 (l.flatMap cP)),.fn (.func 59) [] [],sI .i64 l.length,sI .i64 i] [] 0 19) ?_ ?_ l.length 0 (by omega)
 · intro i x o hx h1 h2
   have hi:i<l.length:=(dp.1 hx).1
   have c:=bp (z:=2) (enc:=cP) (fun _=>rfl) hx
   have c0:(l.flatMap cP).getD (i*2) .bw = .sc (.int .i64 x.p):=c 0 (by decide)
   have c1:(l.flatMap cP).getD (i*2+1) .bw = .sc (.int .i64 x.r):=c 1 (by decide)
   have w:sb.wrap ((i:Int)+1)=((i+1:Nat):Int):=by rw[aN (by omega) (by omega)];rfl
   have hd:decide ((i:Int)<(l.length:Int))=true:=by simp;omega
   refine aj aM (Ea l.length i (l.flatMap cP) (p x)) ?_
   simp only[Cy,bF,az.ok,isStr,isInt,bB,isBool,br,av,bD,aE,bC,aB,aW,acy,c0,c1,hd,w]
   exact⟨fun _=>⟨by first | (simp;done) | (simp;omega),rfl,hp x (mb hx),h1,h2⟩,fun q=>(by cases q)⟩
 · have hd:decide ((l.length:Int)<(l.length:Int))=false:=by simp
   refine aj aM (Ea l.length l.length (l.flatMap cP) true) ?_
   simp only[Cy,bF,az.ok,hd]
   exact⟨fun q=>(by cases q),fun _=>trivial⟩
theorem Nt (l:List Ty) (hl:l.length≤10000000) (p:Ty→Bool) (hp : ∀x∈l,an acb env 59 [(.agg ((cP x).map .p))] [] (sB (p x)) []) :
  an acb env 58 [.p (.ps l.length 2 (l.flatMap cP)),.fn (.func 59) [] []] [] (sB (l.any p)) []:=by
 refine af aM (MY l.length (l.flatMap cP) (jr p l 0)) ?_
 simp only[HZ,az.ok,iR]
 exact⟨Ns l hl p hp,trivial⟩
theorem Nu (l:List Im) (hl:l.length≤10000000) (p:Im→Bool) (hp : ∀x∈l,an acb env 62 [(.agg ((bK x).map .p))] [] (sB (p x)) []) :
  an acb env 109 [.p (.ps l.length 3 (l.flatMap bK)),.fn (.func 62) [] []] [] (sI .i64 (jr p l 0)) []:=by
 refine af aM (JX l.length (l.flatMap bK)) ?_
 refine jC (l:=l) (p:=p) (D:=fun i=>ak acb env 109 0 [.p (.ps l.length 3 (l.flatMap bK)),.fn (.func 62) [] [],sI .i64 l.length,sI .i64 i] [] 0 19) ?_ ?_ l.length 0 (by omega)
 · intro i x o hx h1 h2
   have hi:i<l.length:=(dp.1 hx).1
   have c:=bp (z:=3) (enc:=bK) (fun _=>rfl) hx
   have c0:(l.flatMap bK).getD (i*3) .bw = .sc (.string x.mo):=c 0 (by decide)
   have c1:(l.flatMap bK).getD (i*3+1) .bw = .sc (.string x.nm):=c 1 (by decide)
   have c2:(l.flatMap bK).getD (i*3+1+1) .bw = .sc (.int .i64 x.ty):=c 2 (by decide)
   have w:sb.wrap ((i:Int)+1)=((i+1:Nat):Int):=by rw[aN (by omega) (by omega)];rfl
   have hd:decide ((i:Int)<(l.length:Int))=true:=by simp;omega
   refine aj aM (Eb l.length i (l.flatMap bK) (p x)) ?_
   simp only[Cz,bF,az.ok,isStr,isInt,bB,isBool,br,av,bD,aE,bC,aB,aW,acy,c0,c1,c2,hd,w]
   exact⟨fun _=>⟨by first | (simp;done) | (simp;omega),rfl,hp x (mb hx),h1,h2⟩,fun q=>(by cases q)⟩
 · have hd:decide ((l.length:Int)<(l.length:Int))=false:=by simp
   refine aj aM (Eb l.length l.length (l.flatMap bK) true) ?_
   simp only[Cz,bF,az.ok,hd]
   exact⟨fun q=>(by cases q),fun _=>trivial⟩
theorem Nv (l:List Im) (hl:l.length≤10000000) (p:Im→Bool) (hp : ∀x∈l,an acb env 62 [(.agg ((bK x).map .p))] [] (sB (p x)) []) :
  an acb env 61 [.p (.ps l.length 3 (l.flatMap bK)),.fn (.func 62) [] []] [] (sB (l.any p)) []:=by
 refine af aM (MZ l.length (l.flatMap bK) (jr p l 0)) ?_
 simp only[H6,az.ok,iR]
 exact⟨Nu l hl p hp,trivial⟩
theorem Nw (l:List Fu) (hl:l.length≤10000000) (p:Fu→Bool) (hp : ∀x∈l,an acb env 65 [(.agg ((bG x).map .p))] [] (sB (p x)) []) :
  an acb env 110 [.p (.ps l.length 3 (l.flatMap bG)),.fn (.func 65) [] []] [] (sI .i64 (jr p l 0)) []:=by
 refine af aM (JY l.length (l.flatMap bG)) ?_
 refine jC (l:=l) (p:=p) (D:=fun i=>ak acb env 110 0 [.p (.ps l.length 3 (l.flatMap bG)),.fn (.func 65) [] [],sI .i64 l.length,sI .i64 i] [] 0 19) ?_ ?_ l.length 0 (by omega)
 · intro i x o hx h1 h2
   have hi:i<l.length:=(dp.1 hx).1
   have c:=bp (z:=3) (enc:=bG) (fun _=>rfl) hx
   have c0:(l.flatMap bG).getD (i*3) .bw = .sc (.int .i64 x.ty):=c 0 (by decide)
   have c1:(l.flatMap bG).getD (i*3+1) .bw = .sc (.int .i64 x.lo):=c 1 (by decide)
   have c2:(l.flatMap bG).getD (i*3+1+1) .bw=pL x.l:=c 2 (by decide)
   have w:sb.wrap ((i:Int)+1)=((i+1:Nat):Int):=by rw[aN (by omega) (by omega)];rfl
   have hd:decide ((i:Int)<(l.length:Int))=true:=by simp;omega
   refine aj aM (Ec l.length i (l.flatMap bG) (p x)) ?_
   simp only[CA,bF,az.ok,isStr,isInt,bB,isBool,br,av,bD,aE,bC,aB,aW,acy,c0,c1,c2,hd,w]
   exact⟨fun _=>⟨by first | (simp;done) | (simp;omega),rfl,hp x (mb hx),h1,h2⟩,fun q=>(by cases q)⟩
 · have hd:decide ((l.length:Int)<(l.length:Int))=false:=by simp
   refine aj aM (Ec l.length l.length (l.flatMap bG) true) ?_
   simp only[CA,bF,az.ok,hd]
   exact⟨fun q=>(by cases q),fun _=>trivial⟩
theorem Nx (l:List Fu) (hl:l.length≤10000000) (p:Fu→Bool) (hp : ∀x∈l,an acb env 65 [(.agg ((bG x).map .p))] [] (sB (p x)) []) :
  an acb env 64 [.p (.ps l.length 3 (l.flatMap bG)),.fn (.func 65) [] []] [] (sB (l.any p)) []:=by
 refine af aM (M0 l.length (l.flatMap bG) (jr p l 0)) ?_
 simp only[H7,az.ok,iR]
 exact⟨Nw l hl p hp,trivial⟩
theorem Ny (l:List Li) (hl:l.length≤10000000) (p:Li→Bool) (hp : ∀x∈l,an acb env 69 [(.agg ((bN x).map .p))] [] (sB (p x)) []) :
  an acb env 112 [.p (.ps l.length 3 (l.flatMap bN)),.fn (.func 69) [] []] [] (sI .i64 (jr p l 0)) []:=by
 refine af aM (JZ l.length (l.flatMap bN)) ?_
 refine jC (l:=l) (p:=p) (D:=fun i=>ak acb env 112 0 [.p (.ps l.length 3 (l.flatMap bN)),.fn (.func 69) [] [],sI .i64 l.length,sI .i64 i] [] 0 19) ?_ ?_ l.length 0 (by omega)
 · intro i x o hx h1 h2
   have hi:i<l.length:=(dp.1 hx).1
   have c:=bp (z:=3) (enc:=bN) (fun _=>rfl) hx
   have c0:(l.flatMap bN).getD (i*3) .bw = .sc (.int .u32 x.mn):=c 0 (by decide)
   have c1:(l.flatMap bN).getD (i*3+1) .bw = .sc (.int .u32 x.mx):=c 1 (by decide)
   have c2:(l.flatMap bN).getD (i*3+1+1) .bw = .sc (.bool x.cap):=c 2 (by decide)
   have w:sb.wrap ((i:Int)+1)=((i+1:Nat):Int):=by rw[aN (by omega) (by omega)];rfl
   have hd:decide ((i:Int)<(l.length:Int))=true:=by simp;omega
   refine aj aM (Ed l.length i (l.flatMap bN) (p x)) ?_
   simp only[CB,bF,az.ok,isStr,isInt,bB,isBool,br,av,bD,aE,bC,aB,aW,acy,c0,c1,c2,hd,w]
   exact⟨fun _=>⟨by first | (simp;done) | (simp;omega),rfl,hp x (mb hx),h1,h2⟩,fun q=>(by cases q)⟩
 · have hd:decide ((l.length:Int)<(l.length:Int))=false:=by simp
   refine aj aM (Ed l.length l.length (l.flatMap bN) true) ?_
   simp only[CB,bF,az.ok,hd]
   exact⟨fun q=>(by cases q),fun _=>trivial⟩
theorem Nz (l:List Li) (hl:l.length≤10000000) (p:Li→Bool) (hp : ∀x∈l,an acb env 69 [(.agg ((bN x).map .p))] [] (sB (p x)) []) :
  an acb env 68 [.p (.ps l.length 3 (l.flatMap bN)),.fn (.func 69) [] []] [] (sB (l.any p)) []:=by
 refine af aM (M1 l.length (l.flatMap bN) (jr p l 0)) ?_
 simp only[H8,az.ok,iR]
 exact⟨Ny l hl p hp,trivial⟩
theorem NA (l:List Li) (hl:l.length≤10000000) (p:Li→Bool) (hp : ∀x∈l,an acb env 71 [(.agg ((bN x).map .p))] [] (sB (p x)) []) :
  an acb env 112 [.p (.ps l.length 3 (l.flatMap bN)),.fn (.func 71) [] []] [] (sI .i64 (jr p l 0)) []:=by
 refine af aM (J0 l.length (l.flatMap bN)) ?_
 refine jC (l:=l) (p:=p) (D:=fun i=>ak acb env 112 0 [.p (.ps l.length 3 (l.flatMap bN)),.fn (.func 71) [] [],sI .i64 l.length,sI .i64 i] [] 0 19) ?_ ?_ l.length 0 (by omega)
 · intro i x o hx h1 h2
   have hi:i<l.length:=(dp.1 hx).1
   have c:=bp (z:=3) (enc:=bN) (fun _=>rfl) hx
   have c0:(l.flatMap bN).getD (i*3) .bw = .sc (.int .u32 x.mn):=c 0 (by decide)
   have c1:(l.flatMap bN).getD (i*3+1) .bw = .sc (.int .u32 x.mx):=c 1 (by decide)
   have c2:(l.flatMap bN).getD (i*3+1+1) .bw = .sc (.bool x.cap):=c 2 (by decide)
   have w:sb.wrap ((i:Int)+1)=((i+1:Nat):Int):=by rw[aN (by omega) (by omega)];rfl
   have hd:decide ((i:Int)<(l.length:Int))=true:=by simp;omega
   refine aj aM (Ee l.length i (l.flatMap bN) (p x)) ?_
   simp only[CC,bF,az.ok,isStr,isInt,bB,isBool,br,av,bD,aE,bC,aB,aW,acy,c0,c1,c2,hd,w]
   exact⟨fun _=>⟨by first | (simp;done) | (simp;omega),rfl,hp x (mb hx),h1,h2⟩,fun q=>(by cases q)⟩
 · have hd:decide ((l.length:Int)<(l.length:Int))=false:=by simp
   refine aj aM (Ee l.length l.length (l.flatMap bN) true) ?_
   simp only[CC,bF,az.ok,hd]
   exact⟨fun q=>(by cases q),fun _=>trivial⟩
theorem NB (l:List Li) (hl:l.length≤10000000) (p:Li→Bool) (hp : ∀x∈l,an acb env 71 [(.agg ((bN x).map .p))] [] (sB (p x)) []) :
  an acb env 68 [.p (.ps l.length 3 (l.flatMap bN)),.fn (.func 71) [] []] [] (sB (l.any p)) []:=by
 refine af aM (M3 l.length (l.flatMap bN) (jr p l 0)) ?_
 simp only[H9,az.ok,iR]
 exact⟨NA l hl p hp,trivial⟩
theorem NC (l:List Ex) (hl:l.length≤10000000) (p:Ex→Bool) (hp : ∀x∈l,an acb env 73 [(.agg ((aS x).map .p))] [] (sB (p x)) []) :
  an acb env 25 [.p (.ps l.length 3 (l.flatMap aS)),.fn (.func 73) [] []] [] (sI .i64 (jr p l 0)) []:=by
 refine af aM (J1 l.length (l.flatMap aS)) ?_
 refine jC (l:=l) (p:=p) (D:=fun i=>ak acb env 25 0 [.p (.ps l.length 3 (l.flatMap aS)),.fn (.func 73) [] [],sI .i64 l.length,sI .i64 i] [] 0 19) ?_ ?_ l.length 0 (by omega)
 · intro i x o hx h1 h2
   have hi:i<l.length:=(dp.1 hx).1
   have c:=bp (z:=3) (enc:=aS) (fun _=>rfl) hx
   have c0:(l.flatMap aS).getD (i*3) .bw = .sc (.string x.nm):=c 0 (by decide)
   have c1:(l.flatMap aS).getD (i*3+1) .bw = .sc (.int .i64 x.kind):=c 1 (by decide)
   have c2:(l.flatMap aS).getD (i*3+1+1) .bw = .sc (.int .u32 x.ix):=c 2 (by decide)
   have w:sb.wrap ((i:Int)+1)=((i+1:Nat):Int):=by rw[aN (by omega) (by omega)];rfl
   have hd:decide ((i:Int)<(l.length:Int))=true:=by simp;omega
   refine aj aM (Ef l.length i (l.flatMap aS) (p x)) ?_
   simp only[CD,bF,az.ok,isStr,isInt,bB,isBool,br,av,bD,aE,bC,aB,aW,acy,c0,c1,c2,hd,w]
   exact⟨fun _=>⟨by first | (simp;done) | (simp;omega),rfl,hp x (mb hx),h1,h2⟩,fun q=>(by cases q)⟩
 · have hd:decide ((l.length:Int)<(l.length:Int))=false:=by simp
   refine aj aM (Ef l.length l.length (l.flatMap aS) true) ?_
   simp only[CD,bF,az.ok,hd]
   exact⟨fun q=>(by cases q),fun _=>trivial⟩
theorem ND (l:List Ex) (hl:l.length≤10000000) (p:Ex→Bool) (hp : ∀x∈l,an acb env 73 [(.agg ((aS x).map .p))] [] (sB (p x)) []) :
  an acb env 72 [.p (.ps l.length 3 (l.flatMap aS)),.fn (.func 73) [] []] [] (sB (l.any p)) []:=by
 refine af aM (M4 l.length (l.flatMap aS) (jr p l 0)) ?_
 simp only[Ia,az.ok,iR]
 exact⟨NC l hl p hp,trivial⟩
def Yr (x:Ty):Int:=if 0≤x.p∧x.p≤255∧0≤x.r∧x.r≤1 then 0 else 2
def klF (most:Int) (x:Li):Int:=if x.mn>most∨(x.cap=true∧(x.mx<x.mn∨x.mx>most))∨(x.cap=false∧x.mx≠0) then 2 else 0
theorem NF (x:Ty):an acb env 60 [.agg ((cP x).map .p)] [] (sI .i64 (Yr x)) []:=by
 refine af aM (M5 x.p x.r) ?_
 simp only[Ib,az.ok,cond_true,cond_false,Bool.and_true]
 refine⟨fun q=> ?_,fun q=> ?_⟩
 · simp only[Bool.not_eq_true',Bool.and_eq_false_iff,beq_eq_false_iff_ne,ne_eq] at q
   rw[Yr,if_neg (by omega)]
 · simp only[Bool.not_eq_false',Bool.and_eq_true,beq_iff_eq] at q
   rw[Yr,if_pos (by omega)]
theorem Ek (x:Li) (most:Int):an acb env 70 [.agg ((bN x).map .p),sI .u32 most] [] (sI .i64 (klF most x)) []:=by
 refine af aM (M6 x.mn x.mx x.cap most) ?_
 obtain⟨mn,mx,cap⟩:=x
 simp only[Ic,az.ok,klF]
 cases cap with
 |true=>
  refine⟨fun q=> ?_,fun q=>⟨fun _=>⟨fun r=> ?_,fun r=>⟨fun t=> ?_,fun t=>⟨rfl,?_⟩⟩⟩,fun r=>(by cases r)⟩⟩<;>simp only[decide_eq_true_eq,decide_eq_false_iff_not] at *
  · rw[if_pos (.inl q)]
  · rw[if_pos (.inr (.inl ⟨trivial,.inl r⟩))]
  · rw[if_pos (.inr (.inl ⟨trivial,.inr t⟩))]
  · rw[if_neg (by simp;omega)]
 |false=>
  refine⟨fun q=> ?_,fun q=>⟨fun r=>(by cases r),fun _=>⟨rfl,fun r=> ?_,fun r=> ?_⟩⟩⟩
  · simp only[decide_eq_true_eq] at q
    rw[if_pos (.inl q)]
  · rw[if_pos (.inr (.inr ⟨rfl,by simpa using r⟩))]
  · simp only[decide_eq_false_iff_not] at q
    have r:mx=0:=by simpa using r
    rw[if_neg (by simp[r];omega)]
def Ik (x:El):Bool:=decide ((x.fs.length:Int)>16384)
def NG (s:ByteArray):Bool:=decide ((s.data.toList.length:Int)>1000)
def Gq (x:Ty):Bool:=Yr x != 0
def Gr (x:Im):Bool:= !(decide (0≤x.ty)&&decide (x.ty≤2147483647))
def Em (x:Fu):Bool:= !(decide (0≤x.ty)&&decide (x.ty≤2147483647))||decide (x.lo<0)||decide (x.lo>50000)
def vl (most:Int) (x:Li):Bool:=klF most x != 0
def En (x:Ex):Bool:=decide (x.kind<0)||decide (x.kind>3)
theorem NH (x:El):an acb env 53 [.agg ((bA x).map .p)] [] (sB (Ik x)) []:=af aM (M7 x) rfl
theorem NI (s:ByteArray):an acb env 57 [.p (.sc (.string s))] [] (sB (NG s)) []:=af aM (M8 s) rfl
theorem NJ (x:Ty):an acb env 59 [.agg ((cP x).map .p)] [] (sB (Gq x)) []:=af aM (Na x (Yr x)) ⟨NF x,rfl⟩
theorem NK (x:Li):an acb env 69 [.agg ((bN x).map .p)] [] (sB (vl 1048576 x)) []:=af aM (Nc x (klF 1048576 x)) ⟨Ek x _,rfl⟩
theorem NL (x:Li):an acb env 71 [.agg ((bN x).map .p)] [] (sB (vl 65536 x)) []:=af aM (Nd x (klF 65536 x)) ⟨Ek x _,rfl⟩
theorem NM (x:Im):an acb env 62 [.agg ((bK x).map .p)] [] (sB (Gr x)) []:=by
 refine af aM (Nb x) ?_
 simp only[Ie,bF,az.ok,Gr,ge_iff_le]
 exact⟨fun q=>by rw[q,aeM],fun q=>by rw[q];rfl⟩
theorem NN (x:Ex):an acb env 73 [.agg ((aS x).map .p)] [] (sB (En x)) []:=by
 refine af aM (Nf x) ?_
 simp only[Ig,bF,az.ok,En]
 exact⟨fun q=>by rw[q];rfl,fun q=>by rw[q,pj]⟩
theorem NO (x:Fu):an acb env 65 [.agg ((bG x).map .p)] [] (sB (Em x)) []:=by
 refine af aM (Ng x) ?_
 simp only[Ih,bF,az.ok,Em,ge_iff_le]
 refine⟨fun q=>⟨fun r=> ?_,fun r=>⟨fun t=> ?_,fun t=> ?_⟩⟩,fun q=> ?_⟩
 · rw[q,aeM,r];rfl
 · rw[q,aeM,r,t];rfl
 · rw[q,aeM,r,t];rfl
 · rw[q];rfl
def A2 (M:Mo):List ByteArray:=M.aQ.flatMap (fun x=>[x.mo,x.nm])++M.exs.map Ex.nm
def qw (M:Mo):List (List Ins):=M.fns.map Fu.l++M.gls.map Gl.l++M.els.map El.l++M.bk.map Da.l
theorem lR {α β:Type} {f:α→β} {g:β→List PV} : ∀l:List α,(l.map f).flatMap g=l.flatMap fun x=>g (f x)
 |[]=>rfl
 |x::r=>by rw[List.map_cons,adE,adE,lR r]
theorem Il : ∀l:List Im,(l.flatMap fun x=>[x.mo,x.nm]).flatMap fF=l.flatMap TN
 |[]=>rfl
 |x::r=>by rw[adE,adE,aeS,Il r];rfl
theorem Io (M:Mo):My M=(A2 M).flatMap fF:=by
 rw[A2,aeS,lR,Il];rfl
theorem Ip (M:Mo):Ri M=(qw M).flatMap Ej:=by
 rw[qw,aeS,aeS,aeS,lR,lR,lR,lR];rfl
theorem Iq (M:Mo):(My M).length=(A2 M).length:=by rw[Io,gB (n:=1) (fun _=>rfl),aeR]
theorem RJ (M:Mo):(Ri M).length=(qw M).length:=by rw[Ip,gB (n:=1) (fun _=>rfl),aeR]
theorem NP {M:Mo} (hM:M.fit):(A2 M).length≤10000000:=by
 have h1:=hM.aQ;have h2:=hM.exs
 have l1:=gB (f:=TN) (n:=2) (fun _=>rfl) M.aQ
 have l2:=gB (f:=Yp) (n:=1) (fun _=>rfl) M.exs
 rw[←Iq,My,di];omega
theorem Wq {M:Mo} (hM:M.fit):(qw M).length≤10000000:=by
 have h1:=hM.fns;have h2:=hM.gls;have h3:=hM.els;have h4:=hM.bk
 simp only[qw,di,List.length_map];omega
theorem NQ (M:Mo) (hM:M.fit):an acb env 56 [.agg (M.aI.map .p)] [] (.p (.ps (A2 M).length 1 ((A2 M).flatMap fF))) []:=by
 have h:=Gm M hM
 rw[Iq,Io] at h
 exact h
theorem Ws (M:Mo) (hM:M.fit):an acb env 34 [.agg (M.aI.map .p)] [] (.p (.ps (qw M).length 1 ((qw M).flatMap Ej))) []:=by
 have h:=Gn M hM
 rw[RJ,Ip] at h
 exact h
def _root_.Go.Am.Mo.vn (M:Mo):Prop:= ∀l∈qw M,cN l≤100000000000
def qx (M:Mo) (e:Int):Bool:=(qw M).any fun l=>ig tQ l==e
theorem RK {l:List (List Ins)} {e:Int} (hl:l.length≤10000000) (hs : ∀x∈l,cN x≤100000000000) : ∀(r i:Nat),i+r=l.length →
  cO acb env (ak acb env 54 0 [sI .i64 e,.p (.ps l.length 1 (l.flatMap Ej)),sI .i64 l.length,sI .i64 i] [] 0 20) (.ret (sI .i64 (if(l.drop i).any (fun x=>ig tQ x==e)=true then e else 0)) []):=by
 intro r
 induction r with
 |zero=>
  intro i hi
  obtain rfl:i=l.length:=by omega
  have hd:decide ((l.length:Int)<(l.length:Int))=false:=by simp
  refine aj aM (Eg e l.length l.length (l.flatMap Ej) 0) ?_
  simp only[CE,bF,az.ok,hd,aeU]
  exact⟨fun q=>(by cases q),fun _=>rfl⟩
 |succ r ih=>
  intro i hi
  have BP:i<l.length:=by omega
  have hx:=cb BP
  have hm:l[i]∈l:=List.getElem_mem BP
  rw[aeT BP,aeV]
  generalize l[i]=x at *
  have c:=bp (z:=1) (enc:=Ej) (fun _=>rfl) hx
  have c0:(l.flatMap Ej).getD (i*1) .bw=pL x:=c 0 (by decide)
  have w:sb.wrap ((i:Int)+1)=((i+1:Nat):Int):=by rw[aN (by omega) (by omega)];rfl
  have hd:decide ((i:Int)<(l.length:Int))=true:=by simp;omega
  refine aj aM (Eg e l.length i (l.flatMap Ej) (ig tQ x)) ?_
  simp only[CE,bF,az.ok,bB,aE,bC,aB,aW,acy,c0,hd,w]
  refine⟨fun _=>⟨by first | (simp;done) | (simp;omega),rfl,xX A1 x (hs x hm),fun q=> ?_,fun q=> ?_⟩,fun q=>(by cases q)⟩
  · rw[q,Bool.true_or,if_pos rfl]
  · rw[q,pj]
    exact ih (i+1) (by omega)
theorem uT (M:Mo) (hM:M.fit) (hs:M.vn) (e:Int):an acb env 54 [.agg (M.aI.map .p),sI .i64 e] [] (sI .i64 (if qx M e=true then e else 0)) []:=by
 refine af aM (Nh M e (qw M).length ((qw M).flatMap Ej)) ?_
 exact⟨Ws M hM,RK (Wq hM) hs (qw M).length 0 (by omega)⟩
def kU:Int→List Da→Int
 |n,[]=>n
 |n,x::r=>kU (n-min (x.bs.length:Int) (n+1)) r
def rW (M:Mo):Bool:=(A2 M).any NG
def Eo (M:Mo):Int:=if kU 1048576 M.bk<0∨rW M=true then 3 else 0
theorem RL (M:Mo) (hM:M.fit) : ∀(r i:Nat) (n:Int),i+r=M.bk.length → -1≤n→n≤1048576 →
  cO acb env (ak acb env 28 0 [.mp 0 0,sI .i64 n,.p (.ps M.bk.length 2 (M.bk.flatMap bU)),sI .i64 M.bk.length,sI .i64 i] [.pc M.aI] 0 29) (.ret (sI .i64 (if kU n (M.bk.drop i)<0∨rW M=true then 3 else 0)) []):=by
 intro r
 induction r with
 |zero=>
  intro i n hi h1 h2
  obtain rfl:i=M.bk.length:=by omega
  have hd:decide ((M.bk.length:Int)<(M.bk.length:Int))=false:=by simp
  refine aj aM (Eh M M.bk.length M.bk.length n (M.bk.flatMap bU) (A2 M).length ((A2 M).flatMap fF) (rW M)) ?_
  simp only[CF,bF,az.ok,hd,aeU,kU]
  refine⟨fun q=>(by cases q),fun _=>⟨fun q=> ?_,fun q=>⟨NQ M hM,Np (A2 M) (NP hM) NG (fun x _=>NI x),fun t=> ?_,fun t=> ?_⟩⟩⟩<;>simp only[decide_eq_true_eq,decide_eq_false_iff_not] at q
  · rw[if_pos (.inl q)]
  · rw[if_pos (.inr t)]
  · rw[if_neg (by simp[t];omega)]
 |succ r ih=>
  intro i n hi h1 h2
  have hl:=hM.bk
  have BP:i<M.bk.length:=by omega
  have hx:=cb BP
  rw[aeT BP]
  generalize M.bk[i]=x at *
  have c:=bp (z:=2) (enc:=bU) (fun _=>rfl) hx
  have c0:(M.bk.flatMap bU).getD (i*2) .bw=pL x.l:=c 0 (by decide)
  have c1:(M.bk.flatMap bU).getD (i*2+1) .bw=pT .u8 x.bs:=c 1 (by decide)
  have w:sb.wrap ((i:Int)+1)=((i+1:Nat):Int):=by rw[aN (by omega) (by omega)];rfl
  have w1:sb.wrap (n+1)=n+1:=aN (by omega) (by omega)
  have w2:sb.wrap (n-min (x.bs.length:Int) (n+1))=n-min (x.bs.length:Int) (n+1):=aN (by omega) (by omega)
  have hd:decide ((i:Int)<(M.bk.length:Int))=true:=by simp;omega
  refine aj aM (Eh M M.bk.length i n (M.bk.flatMap bU) 0 [] true) ?_
  simp only[CF,bF,az.ok,bB,aE,bC,aB,aW,acy,c0,c1,hd,w,w1,w2,cond_true,kU]
  exact⟨fun _=>⟨by first | (simp;done) | (simp;omega),rfl,ih (i+1) _ (by omega) (by omega) (by omega)⟩,fun q=>(by cases q)⟩
theorem J3 (M:Mo) (hM:M.fit):an acb env 28 [.agg (M.aI.map .p)] [] (sI .i64 (Eo M)) []:=
 af aM (Ni M) (RL M hM M.bk.length 0 1048576 (by omega) (by omega) (by omega))
def oy (M:Mo):Bool:=decide (M.fR.length>1)||decide (M.gA.length>1)||decide (max (max (max (max (max (max (M.tys.length:Int) M.aQ.length) M.fns.length) M.gls.length) M.exs.length) M.els.length) M.bk.length>16384)||M.els.any Ik
def A3 (M:Mo):Int:=if oy M=true then 141 else if qx M 141=true then 141 else 0
theorem J4 (M:Mo) (hM:M.fit) (hs:M.vn):an acb env 27 [.agg (M.aI.map .p)] [] (sI .i64 (A3 M)) []:=by
 have hE:=Nn M.els (by have:=hM.els;omega) Ik (fun x _=>NH x)
 refine af aM (Nj M (M.els.any Ik) (if qx M 141=true then 141 else 0)) ?_
 have hli:=uT M hM hs 141
 have hF:A3 M=if oy M=true then 141 else if qx M 141=true then 141 else 0:=rfl
 generalize (if qx M 141=true then(141:Int) else 0)=v at hli hF ⊢
 simp only[Ii,az.ok,cond_false,cond_true]
 refine⟨fun q=> ?_,fun q=>⟨fun r=> ?_,fun r=>⟨fun t=> ?_,fun t=>⟨hE,fun u=> ?_,fun u=>⟨hli,?_⟩⟩⟩⟩⟩<;>simp only[decide_eq_true_eq,decide_eq_false_iff_not] at *
 · rw[hF,if_pos (by simp only[oy,il,decide_eq_true_eq];omega)]
 · rw[hF,if_pos (by simp only[oy,il,decide_eq_true_eq];omega)]
 · rw[hF,if_pos (by simp only[oy,il,decide_eq_true_eq];omega)]
 · rw[hF,if_pos (by simp[oy,u])]
 · rw[hF,if_neg (by simp only[oy,u,il,decide_eq_true_eq,Bool.or_false];omega)]
end Go.Proofs.YtdmmllcjgjmbbaaGreatDoor.N
end
