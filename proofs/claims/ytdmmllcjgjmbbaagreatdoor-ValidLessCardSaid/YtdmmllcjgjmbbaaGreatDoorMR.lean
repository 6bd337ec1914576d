import Derived.Test.YtdmmllcjgjmbbaaGreatDoorMQ
import Derived.Test.YtdmmllcjgjmbbaaGreatDoorMH
open Nat renaming beq→ae
open List renaming map→ab6,getElem?_eq_getElem→cb,getD_eq_getElem?_getD→ch,length_append→di
open Go.Proofs.Tryz renaming prog→acb
open Go.IntKind renaming u64→ae6,i64→sb,u32→abY
open Int renaming reduceBEq→afq,le_refl→afh
open Bool renaming false_eq_true→pb,true_eq_false→ae5,not_false→ph,and_true→aeq,and_eq_true→c8
noncomputable section
section
set_option linter.unusedVariables false
namespace Go.Proofs.YtdmmllcjgjmbbaaGreatDoor.N
open Go Go.Am
def aa0 (f:FuncId):Bool:=ae f 131||(ae f 132||(ae f 128||(ae f 85||(ae f 156||(ae f 135||(ae f 163||(ae f 84||(ae f 116||(ae f 129||(ae f 133||ae f 136))))))))))
def nth (X:Lx) (R R1 R2 R3 R4 R5 R6 R7:Rw) (i:Nat):Rw:=match i with
 |0=>R1
 |1=>R2
 |2=>R3
 |3=>R4
 |4=>R5
 |5=>R6
 |_=>R7
def sq (X:Lx) (R R1 R2 R3 R4 R5 R6 R7:Rw) (i:Nat) (f:FuncId) (_:List AV) (_:Mem):Option (AV×Mem):=cond (aa0 f) (some (.au [],lC X (nth X R R1 R2 R3 R4 R5 R6 R7 i))) (cond (ae f 134) (some (.au [],eK X (nth X R R1 R2 R3 R4 R5 R6 R7 i))) none)
def aef (X:Lx) (R R1 R2 R3 R4 R5 R6 R7:Rw) (op q tk tl:Int) (is:Bool) (f:FuncId) (_:List AV) (m:Mem):Option (AV×Mem):=cond (ae f 177) (some (.au [sI .i64 tk,sI .i64 tl,sB is],m)) none
def aeg (X:Lx) (R R1 R2 R3 R4 R5 R6 R7:Rw) (op r a b nn:Int) (tg:List Int) (ll le:List Ins) (q al:Int) (st mu:Bool) (f:FuncId) (_:List AV) (m:Mem):Option (AV×Mem):=cond (ae f 162) (some (.au [sI .u32 al,sB st],m)) none
def aeh (X:Lx) (R R1 R2 R3 R4 R5 R6 R7:Rw) (op r a b nn:Int) (tg:List Int) (ll le:List Ins) (q al:Int) (st mu:Bool):Env:=uW [(136,53,sB mu)]
def aa1 (X:Lx) (R R1 R2 R3 R4 R5 R6 R7:Rw) (op r a b nn:Int) (tg:List Int) (ll le:List Ins) (q v P Q:Int) (is:Bool) (i:Nat) (f:FuncId) (l:List AV) (m:Mem):Option (AV×Mem):=cond (ae f 130) (some (sI .i64 v,eK X (nth X R R1 R2 R3 R4 R5 R6 R7 i))) (cond (ae f 8) (some (.au [.agg [sI .i64 P,sI .i64 Q],sB is],m)) (sq X R R1 R2 R3 R4 R5 R6 R7 i f l m))
def aei (X:Lx) (R R1 R2 R3 R4 R5 R6 R7:Rw) (op r a b nn:Int) (tg:List Int) (ll le:List Ins) (q v P Q:Int) (is:Bool):Nat→FuncId→List AV→Mem→Option (AV×Mem):=aa1 X R R1 R2 R3 R4 R5 R6 R7 op r a b nn tg ll le q v P Q is
def aej (X:Lx) (R R1 R2 R3 R4 R5 R6 R7:Rw) (op r a b nn:Int) (tg:List Int) (ll le:List Ins) (q v P Q:Int) (is:Bool):Env:=uW [(116,110,sB true),(116,140,.agg [sI .i64 P,sI .i64 Q])]
def aek (X:Lx) (R R1 R2 R3 R4 R5 R6 R7:Rw) (op r a b nn:Int) (tg:List Int) (ll le:List Ins) (q v P Q:Int) (is:Bool):Env:=uW [(116,110,sB false)]
def XA:bH:=aT aH aA [] [] []
def aa2 (X:Lx) (R:Rw) (R1:Rw) (R2:Rw) (R3:Rw) (R4:Rw) (R5:Rw) (R6:Rw) (R7:Rw) (P Q q:Int):Sc:=(.ans 131 (.au []) ([aV X.M X.tP X.tR X.own R1.h 2 R1.k R1.e R1.p R1.nx,.dead,.ob (aD.gr 160 true) (ab6 AV.p R1.cs)]) (.ans 132 (.au []) ([aV X.M X.tP X.tR X.own R2.h 2 R2.k R2.e R2.p R2.nx,.dead,.ob (aD.gr 160 true) (ab6 AV.p R2.cs)]) .fin))
def IS (X:Lx) (R:Rw) (R1:Rw) (R2:Rw) (R3:Rw) (R4:Rw) (R5:Rw) (R6:Rw) (R7:Rw) (P Q q:Int):az:=
 (.call ⟨131,[.mp 0 0,sI .i64 P,sI .i64 q],[aV X.M X.tP X.tR X.own R.h 1 R.k R.e R.p R.nx,.ob (aD.gr 160 true) (ab6 aa (ab6 AV.p R.cs))],.au [],[aV X.M X.tP X.tR X.own R1.h 2 R1.k R1.e R1.p R1.nx,.dead,.ob (aD.gr 160 true) (ab6 AV.p R1.cs)]⟩
 (.call ⟨132,[.mp 0 0,sI .i64 Q,sI .i64 q],[aV X.M X.tP X.tR X.own R1.h 1 R1.k R1.e R1.p R1.nx,.ob (aD.gr 160 true) (ab6 aa (ab6 aa (ab6 AV.p R1.cs)))],.au [],[aV X.M X.tP X.tR X.own R2.h 2 R2.k R2.e R2.p R2.nx,.dead,.ob (aD.gr 160 true) (ab6 AV.p R2.cs)]⟩
 (.out (.ret (.au []) [aV X.M X.tP X.tR X.own R2.h 2 R2.k R2.e R2.p R2.nx,.dead,.ob (aD.gr 160 true) (ab6 aa (ab6 aa (ab6 AV.p R2.cs)))]))))
theorem O5 (X:Lx) (R:Rw) (R1:Rw) (R2:Rw) (R3:Rw) (R4:Rw) (R5:Rw) (R6:Rw) (R7:Rw) (P Q q:Int):aG acb env XA 1000000 135 ([AV.mp 0 0,AV.agg [sI sb P,sI sb Q],sI sb q]) (eK X R) (aa2 X R R1 R2 R3 R4 R5 R6 R7 P Q q)=IS X R R1 R2 R3 R4 R5 R6 R7 P Q q:=by kernel_rfl
def XB (X:Lx) (R:Rw) (R1:Rw) (R2:Rw) (R3:Rw) (R4:Rw) (R5:Rw) (R6:Rw) (R7:Rw) (op q tk tl:Int) (is:Bool):bH:=aT (aef X R R1 R2 R3 R4 R5 R6 R7 op q tk tl is) aA [] [] []
def aa3 (X:Lx) (R:Rw) (R1:Rw) (R2:Rw) (R3:Rw) (R4:Rw) (R5:Rw) (R6:Rw) (R7:Rw) (op q tk tl:Int) (is:Bool):Sc:=(.ans 131 (.au []) ([aV X.M X.tP X.tR X.own R1.h 2 R1.k R1.e R1.p R1.nx,.dead,.ob (aD.gr 160 true) (ab6 AV.p R1.cs)]) (.ans 132 (.au []) ([aV X.M X.tP X.tR X.own R2.h 2 R2.k R2.e R2.p R2.nx,.dead,.ob (aD.gr 160 true) (ab6 AV.p R2.cs)]) .fin))
def IT (X:Lx) (R:Rw) (R1:Rw) (R2:Rw) (R3:Rw) (R4:Rw) (R5:Rw) (R6:Rw) (R7:Rw) (op q tk tl:Int) (is:Bool):az:=
 (.call ⟨177,[sI .i64 op],[],.au [sI .i64 tk,sI .i64 tl,.p (.sc (.bool is))],[]⟩
 (.call ⟨131,[.mp 0 0,sI .i64 tk,sI .i64 q],[aV X.M X.tP X.tR X.own R.h 1 R.k R.e R.p R.nx,.ob (aD.gr 160 true) (ab6 aa (ab6 AV.p R.cs))],.au [],[aV X.M X.tP X.tR X.own R1.h 2 R1.k R1.e R1.p R1.nx,.dead,.ob (aD.gr 160 true) (ab6 AV.p R1.cs)]⟩
 (.call ⟨132,[.mp 0 0,sI .i64 tl,sI .i64 q],[aV X.M X.tP X.tR X.own R1.h 1 R1.k R1.e R1.p R1.nx,.ob (aD.gr 160 true) (ab6 aa (ab6 aa (ab6 AV.p R1.cs)))],.au [],[aV X.M X.tP X.tR X.own R2.h 2 R2.k R2.e R2.p R2.nx,.dead,.ob (aD.gr 160 true) (ab6 AV.p R2.cs)]⟩
 (.out (.ret (.au []) [aV X.M X.tP X.tR X.own R2.h 2 R2.k R2.e R2.p R2.nx,.dead,.ob (aD.gr 160 true) (ab6 aa (ab6 aa (ab6 AV.p R2.cs)))])))))
theorem O6 (X:Lx) (R:Rw) (R1:Rw) (R2:Rw) (R3:Rw) (R4:Rw) (R5:Rw) (R6:Rw) (R7:Rw) (op q tk tl:Int) (is:Bool):aG acb env (XB X R R1 R2 R3 R4 R5 R6 R7 op q tk tl is) 1000000 163 ([AV.mp 0 0,sI sb op,sI sb q]) (eK X R) (aa3 X R R1 R2 R3 R4 R5 R6 R7 op q tk tl is)=IT X R R1 R2 R3 R4 R5 R6 R7 op q tk tl is:=by kernel_rfl
def XC (X:Lx) (R:Rw) (R1:Rw) (R2:Rw) (R3:Rw) (R4:Rw) (R5:Rw) (R6:Rw) (R7:Rw) (op r a b nn:Int) (tg:List Int) (ll:List Ins) (le:List Ins) (q al:Int) (st:Bool) (mu:Bool):bH:=aT (aeg X R R1 R2 R3 R4 R5 R6 R7 op r a b nn tg ll le q al st mu) aA [] [(136,0,0),(136,0,2),(136,0,1),(136,0,3),(136,0,7),(136,0,4),(136,0,5),(136,0,6),(136,0,8)] [(136,0,8)]
def aa4 (X:Lx) (R:Rw) (R1:Rw) (R2:Rw) (R3:Rw) (R4:Rw) (R5:Rw) (R6:Rw) (R7:Rw) (op r a b nn:Int) (tg:List Int) (ll:List Ins) (le:List Ins) (q al:Int) (st:Bool) (mu:Bool):Sc:=(.fork (.yes (.ans 134 (.au []) ([aV X.M X.tP X.tR X.own R1.h 1 R1.k R1.e R1.p R1.nx,.ob (aD.gr 160 true) (ab6 AV.p R1.cs)]) (.ans 163 (.au []) ([aV X.M X.tP X.tR X.own R2.h 2 R2.k R2.e R2.p R2.nx,.dead,.ob (aD.gr 160 true) (ab6 AV.p R2.cs)]) .fin))) (.fork (.yes (.ans 134 (.au []) ([aV X.M X.tP X.tR X.own R1.h 1 R1.k R1.e R1.p R1.nx,.ob (aD.gr 160 true) (ab6 AV.p R1.cs)]) (.ans 163 (.au []) ([aV X.M X.tP X.tR X.own R2.h 2 R2.k R2.e R2.p R2.nx,.dead,.ob (aD.gr 160 true) (ab6 AV.p R2.cs)]) .fin))) (.fork (.ans 134 (.au []) ([aV X.M X.tP X.tR X.own R1.h 1 R1.k R1.e R1.p R1.nx,.ob (aD.gr 160 true) (ab6 AV.p R1.cs)]) (.ans 163 (.au []) ([aV X.M X.tP X.tR X.own R2.h 2 R2.k R2.e R2.p R2.nx,.dead,.ob (aD.gr 160 true) (ab6 AV.p R2.cs)]) .fin)) (.fork (.fork (.ans 134 (.au []) ([aV X.M X.tP X.tR X.own R1.h 1 R1.k R1.e R1.p R1.nx,.ob (aD.gr 160 true) (ab6 AV.p R1.cs)]) (.ans 134 (.au []) ([aV X.M X.tP X.tR X.own R2.h 1 R2.k R2.e R2.p R2.nx,.ob (aD.gr 160 true) (ab6 AV.p R2.cs)]) (.ans 163 (.au []) ([aV X.M X.tP X.tR X.own R3.h 2 R3.k R3.e R3.p R3.nx,.dead,.ob (aD.gr 160 true) (ab6 AV.p R3.cs)]) .fin))) (.ans 134 (.au []) ([aV X.M X.tP X.tR X.own R1.h 1 R1.k R1.e R1.p R1.nx,.ob (aD.gr 160 true) (ab6 AV.p R1.cs)]) (.ans 163 (.au []) ([aV X.M X.tP X.tR X.own R2.h 2 R2.k R2.e R2.p R2.nx,.dead,.ob (aD.gr 160 true) (ab6 AV.p R2.cs)]) .fin))) (.fork (.ans 134 (.au []) ([aV X.M X.tP X.tR X.own R1.h 1 R1.k R1.e R1.p R1.nx,.ob (aD.gr 160 true) (ab6 AV.p R1.cs)]) (.ans 163 (.au []) ([aV X.M X.tP X.tR X.own R2.h 2 R2.k R2.e R2.p R2.nx,.dead,.ob (aD.gr 160 true) (ab6 AV.p R2.cs)]) .fin)) (.fork (.yes (.ans 134 (.au []) ([aV X.M X.tP X.tR X.own R1.h 1 R1.k R1.e R1.p R1.nx,.ob (aD.gr 160 true) (ab6 AV.p R1.cs)]) (.ans 163 (.au []) ([aV X.M X.tP X.tR X.own R2.h 2 R2.k R2.e R2.p R2.nx,.dead,.ob (aD.gr 160 true) (ab6 AV.p R2.cs)]) .fin))) (.fork (.ans 134 (.au []) ([aV X.M X.tP X.tR X.own R1.h 1 R1.k R1.e R1.p R1.nx,.ob (aD.gr 160 true) (ab6 AV.p R1.cs)]) (.ans 163 (.au []) ([aV X.M X.tP X.tR X.own R2.h 2 R2.k R2.e R2.p R2.nx,.dead,.ob (aD.gr 160 true) (ab6 AV.p R2.cs)]) .fin)) (.fork (.ans 134 (.au []) ([aV X.M X.tP X.tR X.own R1.h 1 R1.k R1.e R1.p R1.nx,.ob (aD.gr 160 true) (ab6 AV.p R1.cs)]) (.ans 134 (.au []) ([aV X.M X.tP X.tR X.own R2.h 1 R2.k R2.e R2.p R2.nx,.ob (aD.gr 160 true) (ab6 AV.p R2.cs)]) (.ans 163 (.au []) ([aV X.M X.tP X.tR X.own R3.h 2 R3.k R3.e R3.p R3.nx,.dead,.ob (aD.gr 160 true) (ab6 AV.p R3.cs)]) .fin))) (.ans 163 (.au []) ([aV X.M X.tP X.tR X.own R1.h 2 R1.k R1.e R1.p R1.nx,.dead,.ob (aD.gr 160 true) (ab6 AV.p R1.cs)]) .fin)))))))))
def fA (X:Lx) (R1:Rw) (R2:Rw) (op:Int) (q:Int):az:=
 (.call ⟨163,[.mp 0 0,sI .i64 op,sI .i64 q],[aV X.M X.tP X.tR X.own R1.h 1 R1.k R1.e R1.p R1.nx,.ob (aD.gr 160 true) (ab6 aa (ab6 aa (ab6 AV.p R1.cs)))],.au [],[aV X.M X.tP X.tR X.own R2.h 2 R2.k R2.e R2.p R2.nx,.dead,.ob (aD.gr 160 true) (ab6 AV.p R2.cs)]⟩ (.out (.ret (.au []) [aV X.M X.tP X.tR X.own R2.h 2 R2.k R2.e R2.p R2.nx,.dead,.ob (aD.gr 160 true) (ab6 aa (ab6 aa (ab6 AV.p R2.cs)))])))
def fB (X:Lx) (R:Rw) (R1:Rw) (R2:Rw) (op a:Int) (q:Int):az:=
 (.call ⟨134,[.mp 0 0,.p (.sc (.bool (decide (ae6.wrap a<X.own)))),sI .i64 6,sI .i64 q],[aV X.M X.tP X.tR X.own R.h 1 R.k R.e R.p R.nx,.ob (aD.gr 160 true) (ab6 aa (ab6 AV.p R.cs))],.au [],[aV X.M X.tP X.tR X.own R1.h 1 R1.k R1.e R1.p R1.nx,.ob (aD.gr 160 true) (ab6 AV.p R1.cs)]⟩ (fA X R1 R2 op q))
def fX (X:Lx) (R2:Rw) (R3:Rw) (op:Int) (q:Int):az:=
 (.call ⟨163,[.mp 0 0,sI .i64 op,sI .i64 q],[aV X.M X.tP X.tR X.own R2.h 1 R2.k R2.e R2.p R2.nx,.ob (aD.gr 160 true) (ab6 aa (ab6 aa (ab6 AV.p R2.cs)))],.au [],[aV X.M X.tP X.tR X.own R3.h 2 R3.k R3.e R3.p R3.nx,.dead,.ob (aD.gr 160 true) (ab6 AV.p R3.cs)]⟩ (.out (.ret (.au []) [aV X.M X.tP X.tR X.own R3.h 2 R3.k R3.e R3.p R3.nx,.dead,.ob (aD.gr 160 true) (ab6 aa (ab6 aa (ab6 AV.p R3.cs)))])))
def fY (X:Lx) (R:Rw) (R1:Rw) (R2:Rw) (op a:Int) (q:Int):az:=
 (.must true (.call ⟨134,[.mp 0 0,.p (.sc (.bool (decide (ae6.wrap a<ae6.wrap (↑X.M.jN:Int))))),sI .i64 6,sI .i64 q],[aV X.M X.tP X.tR X.own R.h 1 R.k R.e R.p R.nx,.ob (aD.gr 160 true) (ab6 aa (ab6 AV.p R.cs))],.au [],[aV X.M X.tP X.tR X.own R1.h 1 R1.k R1.e R1.p R1.nx,.ob (aD.gr 160 true) (ab6 AV.p R1.cs)]⟩ (fA X R1 R2 op q)))
def fZ (X:Lx) (R:Rw) (R1:Rw) (R2:Rw) (op:Int) (q:Int):az:=
 (.call ⟨134,[.mp 0 0,.p (.sc (.bool (decide ((↑X.M.tU:Int)>0)))),sI .i64 6,sI .i64 q],[aV X.M X.tP X.tR X.own R.h 1 R.k R.e R.p R.nx,.ob (aD.gr 160 true) (ab6 aa (ab6 AV.p R.cs))],.au [],[aV X.M X.tP X.tR X.own R1.h 1 R1.k R1.e R1.p R1.nx,.ob (aD.gr 160 true) (ab6 AV.p R1.cs)]⟩ (fA X R1 R2 op q))
def kX (X:Lx) (R:Rw) (R1:Rw) (R2:Rw) (R3:Rw) (R4:Rw) (R5:Rw) (R6:Rw) (R7:Rw) (op r a b nn:Int) (tg:List Int) (ll:List Ins) (le:List Ins) (q al:Int) (st:Bool) (mu:Bool):az:=
 (.test (op==32)
 (.must (op==32)
 (fB X R R1 R2 op a q))
 (.test (op==33)
 (.must (op==33)
 (fB X R R1 R2 op a q))
 (.test (op==34)
 (fB X R R1 R2 op a q)
 (.test (op==36)
 (.test (decide (ae6.wrap a<ae6.wrap (↑X.M.jN:Int)))
 (.must (aW a X.M.jN&&true&&true&&(isBool (aF X.M.yJ (a.toNat*2+0))&&true&&ej (.p (.sc (.bool (bD (aF X.M.yJ (a.toNat*2+0)))))) (.p (.sc (.bool mu)))&&true)&&true)
 (.call ⟨134,[.mp 0 0,.p (.sc (.bool mu)),sI .i64 212,sI .i64 q],[aV X.M X.tP X.tR X.own R.h 1 R.k R.e R.p R.nx,.ob (aD.gr 160 true) (ab6 aa (ab6 AV.p R.cs))],.au [],[aV X.M X.tP X.tR X.own R1.h 1 R1.k R1.e R1.p R1.nx,.ob (aD.gr 160 true) (ab6 AV.p R1.cs)]⟩
 (.must true
 (.call ⟨134,[.mp 0 0,.p (.sc (.bool (decide (ae6.wrap a<ae6.wrap (↑X.M.jN:Int))))),sI .i64 6,sI .i64 q],[aV X.M X.tP X.tR X.own R1.h 1 R1.k R1.e R1.p R1.nx,.ob (aD.gr 160 true) (ab6 aa (ab6 aa (ab6 AV.p R1.cs)))],.au [],[aV X.M X.tP X.tR X.own R2.h 1 R2.k R2.e R2.p R2.nx,.ob (aD.gr 160 true) (ab6 AV.p R2.cs)]⟩
 (fX X R2 R3 op q)))))
 (fY X R R1 R2 op a q))
 (.test (op==35)
 (fY X R R1 R2 op a q)
 (.test (op==63)
 (.must (op==63)
 (fZ X R R1 R2 op q))
 (.test (op==64)
 (fZ X R R1 R2 op q)
 (.call ⟨162,[sI .i64 op],[],.au [sI .u32 al,.p (.sc (.bool st))],[]⟩
 (.test (st)
 (.call ⟨134,[.mp 0 0,.p (.sc (.bool (decide ((↑X.M.tU:Int)>0)))),sI .i64 6,sI .i64 q],[aV X.M X.tP X.tR X.own R.h 1 R.k R.e R.p R.nx,.ob (aD.gr 160 true) (ab6 aa (ab6 AV.p R.cs))],.au [],[aV X.M X.tP X.tR X.own R1.h 1 R1.k R1.e R1.p R1.nx,.ob (aD.gr 160 true) (ab6 AV.p R1.cs)]⟩
 (.call ⟨134,[.mp 0 0,.p (.sc (.bool (decide (a≤al)))),sI .i64 211,sI .i64 q],[aV X.M X.tP X.tR X.own R1.h 1 R1.k R1.e R1.p R1.nx,.ob (aD.gr 160 true) (ab6 aa (ab6 aa (ab6 AV.p R1.cs)))],.au [],[aV X.M X.tP X.tR X.own R2.h 1 R2.k R2.e R2.p R2.nx,.ob (aD.gr 160 true) (ab6 AV.p R2.cs)]⟩
 (fX X R2 R3 op q)))
 (.call ⟨163,[.mp 0 0,sI .i64 op,sI .i64 q],[aV X.M X.tP X.tR X.own R.h 1 R.k R.e R.p R.nx,.ob (aD.gr 160 true) (ab6 aa (ab6 AV.p R.cs))],.au [],[aV X.M X.tP X.tR X.own R1.h 2 R1.k R1.e R1.p R1.nx,.dead,.ob (aD.gr 160 true) (ab6 AV.p R1.cs)]⟩
 (.out (.ret (.au []) [aV X.M X.tP X.tR X.own R1.h 2 R1.k R1.e R1.p R1.nx,.dead,.ob (aD.gr 160 true) (ab6 aa (ab6 aa (ab6 AV.p R1.cs)))]))))))))))))
theorem kr (X:Lx) (R:Rw) (R1:Rw) (R2:Rw) (R3:Rw) (R4:Rw) (R5:Rw) (R6:Rw) (R7:Rw) (op r a b nn:Int) (tg:List Int) (ll:List Ins) (le:List Ins) (q al:Int) (st:Bool) (mu:Bool):aG acb (aeh X R R1 R2 R3 R4 R5 R6 R7 op r a b nn tg ll le q al st mu) (XC X R R1 R2 R3 R4 R5 R6 R7 op r a b nn tg ll le q al st mu) 1000000 136 ([AV.mp 0 0,dO op r a b nn tg ll le,sI sb q]) (eK X R) (aa4 X R R1 R2 R3 R4 R5 R6 R7 op r a b nn tg ll le q al st mu)=kX X R R1 R2 R3 R4 R5 R6 R7 op r a b nn tg ll le q al st mu:=by kernel_rfl
def XD:bH:=aT aH aA [] [(116,0,0),(116,0,1),(116,0,3),(116,0,2),(116,0,4),(116,0,5),(116,0,6),(116,0,7),(116,0,8),(116,0,9)] []
def aa5 (X:Lx) (R:Rw) (R1:Rw) (R2:Rw) (R3:Rw) (R4:Rw) (R5:Rw) (R6:Rw) (R7:Rw) (op r a b nn:Int) (tg:List Int) (ll:List Ins) (le:List Ins) (q v P Q:Int) (is:Bool):Sc:=(.fork (.ans 128 (.au []) ([aV X.M X.tP X.tR X.own R1.h 2 R1.k R1.e R1.p R1.nx,.dead,.ob (aD.gr 160 true) (ab6 AV.p R1.cs)]) .fin) (.fork (.yes (.ans 129 (.au []) ([aV X.M X.tP X.tR X.own R1.h 2 R1.k R1.e R1.p R1.nx,.dead,.ob (aD.gr 160 true) (ab6 AV.p R1.cs)]) .fin)) (.fork (.yes (.ans 129 (.au []) ([aV X.M X.tP X.tR X.own R1.h 2 R1.k R1.e R1.p R1.nx,.dead,.ob (aD.gr 160 true) (ab6 AV.p R1.cs)]) .fin)) (.fork (.ans 129 (.au []) ([aV X.M X.tP X.tR X.own R1.h 2 R1.k R1.e R1.p R1.nx,.dead,.ob (aD.gr 160 true) (ab6 AV.p R1.cs)]) .fin) (.fork (.ans 130 (sI .i64 v) ([aV X.M X.tP X.tR X.own R1.h 1 R1.k R1.e R1.p R1.nx,.ob (aD.gr 160 true) (ab6 AV.p R1.cs)]) (.ans 131 (.au []) ([aV X.M X.tP X.tR X.own R2.h 2 R2.k R2.e R2.p R2.nx,.dead,.ob (aD.gr 160 true) (ab6 AV.p R2.cs)]) (.ans 128 (.au []) ([aV X.M X.tP X.tR X.own R3.h 2 R3.k R3.e R3.p R3.nx,.dead,.ob (aD.gr 160 true) (ab6 AV.p R3.cs)]) .fin))) (.fork (.ans 130 (sI .i64 v) ([aV X.M X.tP X.tR X.own R1.h 1 R1.k R1.e R1.p R1.nx,.ob (aD.gr 160 true) (ab6 AV.p R1.cs)]) (.ans 131 (.au []) ([aV X.M X.tP X.tR X.own R2.h 2 R2.k R2.e R2.p R2.nx,.dead,.ob (aD.gr 160 true) (ab6 AV.p R2.cs)]) (.ans 131 (.au []) ([aV X.M X.tP X.tR X.own R3.h 2 R3.k R3.e R3.p R3.nx,.dead,.ob (aD.gr 160 true) (ab6 AV.p R3.cs)]) (.ans 132 (.au []) ([aV X.M X.tP X.tR X.own R4.h 2 R4.k R4.e R4.p R4.nx,.dead,.ob (aD.gr 160 true) (ab6 AV.p R4.cs)]) .fin)))) (.fork (.ans 133 (.au []) ([aV X.M X.tP X.tR X.own R1.h 2 R1.k R1.e R1.p R1.nx,.dead,.ob (aD.gr 160 true) (ab6 AV.p R1.cs)]) .fin) (.fork (.ans 131 (.au []) ([aV X.M X.tP X.tR X.own R1.h 2 R1.k R1.e R1.p R1.nx,.dead,.ob (aD.gr 160 true) (ab6 AV.p R1.cs)]) (.ans 128 (.au []) ([aV X.M X.tP X.tR X.own R2.h 2 R2.k R2.e R2.p R2.nx,.dead,.ob (aD.gr 160 true) (ab6 AV.p R2.cs)]) .fin)) (.fork (.C4 116 24 (aei X R R1 R2 R3 R4 R5 R6 R7 op r a b nn tg ll le q v P Q is 0) (.ans 134 (.au []) ([aV X.M X.tP X.tR X.own R2.h 1 R2.k R2.e R2.p R2.nx,.ob (aD.gr 160 true) (ab6 AV.p R2.cs)]) (.ans 135 (.au []) ([aV X.M X.tP X.tR X.own R3.h 2 R3.k R3.e R3.p R3.nx,.dead,.ob (aD.gr 160 true) (ab6 AV.p R3.cs)]) .fin))) (.no (.ans 136 (.au []) ([aV X.M X.tP X.tR X.own R1.h 2 R1.k R1.e R1.p R1.nx,.dead,.ob (aD.gr 160 true) (ab6 AV.p R1.cs)]) .fin)))))))))))
def eT (X:Lx) (R:Rw) (R1:Rw) (op r a b nn:Int) (tg:List Int) (ll:List Ins) (le:List Ins) (q:Int):az:=
 (.call ⟨129,[.mp 0 0,.agg [sI .i64 op,sI .i64 r,sI .u32 a,sI .u32 b,sI .i32 nn,.p (.ps tg.length 1 (dZ abY tg)),.p (.ps ll.length 8 (aq ll)),.p (.ps le.length 8 (aq le))],sI .i64 q],[aV X.M X.tP X.tR X.own R.h 1 R.k R.e R.p R.nx,.ob (aD.gr 160 true) (ab6 aa (ab6 AV.p R.cs))],.au [],[aV X.M X.tP X.tR X.own R1.h 2 R1.k R1.e R1.p R1.nx,.dead,.ob (aD.gr 160 true) (ab6 AV.p R1.cs)]⟩ (.out (.ret (.au []) [aV X.M X.tP X.tR X.own R1.h 2 R1.k R1.e R1.p R1.nx,.dead,.ob (aD.gr 160 true) (ab6 aa (ab6 aa (ab6 AV.p R1.cs)))])))
def eU (X:Lx) (R1:Rw):az:=
 (.out (.ret (.au []) [aV X.M X.tP X.tR X.own R1.h 2 R1.k R1.e R1.p R1.nx,.dead,.ob (aD.gr 160 true) (ab6 aa (ab6 aa (ab6 AV.p R1.cs)))]))
def fC (X:Lx) (R3:Rw):az:=
 (.out (.ret (.au []) [aV X.M X.tP X.tR X.own R3.h 2 R3.k R3.e R3.p R3.nx,.dead,.ob (aD.gr 160 true) (ab6 aa (ab6 aa (ab6 AV.p R3.cs)))]))
def jJ (X:Lx) (R:Rw) (R1:Rw) (R2:Rw) (R3:Rw) (R4:Rw) (R5:Rw) (R6:Rw) (R7:Rw) (op r a b nn:Int) (tg:List Int) (ll:List Ins) (le:List Ins) (q v P Q:Int) (is:Bool):az:=
 (.test (op==0)
 (.call ⟨128,[.mp 0 0,sI .i64 q],[aV X.M X.tP X.tR X.own R.h 1 R.k R.e R.p R.nx,.ob (aD.gr 160 true) (ab6 aa (ab6 AV.p R.cs))],.au [],[aV X.M X.tP X.tR X.own R1.h 2 R1.k R1.e R1.p R1.nx,.dead,.ob (aD.gr 160 true) (ab6 AV.p R1.cs)]⟩
 (eU X R1))
 (.test (op==2)
 (.must (op==2)
 (eT X R R1 op r a b nn tg ll le q))
 (.test (op==3)
 (.must (op==3)
 (eT X R R1 op r a b nn tg ll le q))
 (.test (op==4)
 (eT X R R1 op r a b nn tg ll le q)
 (.test (op==12)
 (.call ⟨130,[.mp 0 0,sI .u32 a,sI .i64 q],[aV X.M X.tP X.tR X.own R.h 1 R.k R.e R.p R.nx,.ob (aD.gr 160 true) (ab6 aa (ab6 AV.p R.cs))],sI .i64 v,[aV X.M X.tP X.tR X.own R1.h 1 R1.k R1.e R1.p R1.nx,.ob (aD.gr 160 true) (ab6 AV.p R1.cs)]⟩
 (.call ⟨131,[.mp 0 0,sI .i64 v,sI .i64 q],[aV X.M X.tP X.tR X.own R1.h 1 R1.k R1.e R1.p R1.nx,.ob (aD.gr 160 true) (ab6 aa (ab6 aa (ab6 AV.p R1.cs)))],.au [],[aV X.M X.tP X.tR X.own R2.h 2 R2.k R2.e R2.p R2.nx,.dead,.ob (aD.gr 160 true) (ab6 AV.p R2.cs)]⟩
 (.call ⟨128,[.mp 0 0,sI .i64 q],[aV X.M X.tP X.tR X.own R2.h 1 R2.k R2.e R2.p R2.nx,.ob (aD.gr 160 true) (ab6 aa (ab6 aa (ab6 AV.p R2.cs)))],.au [],[aV X.M X.tP X.tR X.own R3.h 2 R3.k R3.e R3.p R3.nx,.dead,.ob (aD.gr 160 true) (ab6 AV.p R3.cs)]⟩
 (fC X R3))))
 (.test (op==13)
 (.call ⟨130,[.mp 0 0,sI .u32 a,sI .i64 q],[aV X.M X.tP X.tR X.own R.h 1 R.k R.e R.p R.nx,.ob (aD.gr 160 true) (ab6 aa (ab6 AV.p R.cs))],sI .i64 v,[aV X.M X.tP X.tR X.own R1.h 1 R1.k R1.e R1.p R1.nx,.ob (aD.gr 160 true) (ab6 AV.p R1.cs)]⟩
 (.call ⟨131,[.mp 0 0,sI .i64 1,sI .i64 q],[aV X.M X.tP X.tR X.own R1.h 1 R1.k R1.e R1.p R1.nx,.ob (aD.gr 160 true) (ab6 aa (ab6 aa (ab6 AV.p R1.cs)))],.au [],[aV X.M X.tP X.tR X.own R2.h 2 R2.k R2.e R2.p R2.nx,.dead,.ob (aD.gr 160 true) (ab6 AV.p R2.cs)]⟩
 (.call ⟨131,[.mp 0 0,sI .i64 v,sI .i64 q],[aV X.M X.tP X.tR X.own R2.h 1 R2.k R2.e R2.p R2.nx,.ob (aD.gr 160 true) (ab6 aa (ab6 aa (ab6 AV.p R2.cs)))],.au [],[aV X.M X.tP X.tR X.own R3.h 2 R3.k R3.e R3.p R3.nx,.dead,.ob (aD.gr 160 true) (ab6 AV.p R3.cs)]⟩
 (.call ⟨132,[.mp 0 0,sI .i64 v,sI .i64 q],[aV X.M X.tP X.tR X.own R3.h 1 R3.k R3.e R3.p R3.nx,.ob (aD.gr 160 true) (ab6 aa (ab6 aa (ab6 AV.p R3.cs)))],.au [],[aV X.M X.tP X.tR X.own R4.h 2 R4.k R4.e R4.p R4.nx,.dead,.ob (aD.gr 160 true) (ab6 AV.p R4.cs)]⟩
 (.out (.ret (.au []) [aV X.M X.tP X.tR X.own R4.h 2 R4.k R4.e R4.p R4.nx,.dead,.ob (aD.gr 160 true) (ab6 aa (ab6 aa (ab6 AV.p R4.cs)))]))))))
 (.test (op==14)
 (.call ⟨133,[.mp 0 0,.agg [sI .i64 op,sI .i64 r,sI .u32 a,sI .u32 b,sI .i32 nn,.p (.ps tg.length 1 (dZ abY tg)),.p (.ps ll.length 8 (aq ll)),.p (.ps le.length 8 (aq le))],sI .i64 q],[aV X.M X.tP X.tR X.own R.h 1 R.k R.e R.p R.nx,.ob (aD.gr 160 true) (ab6 aa (ab6 AV.p R.cs))],.au [],[aV X.M X.tP X.tR X.own R1.h 2 R1.k R1.e R1.p R1.nx,.dead,.ob (aD.gr 160 true) (ab6 AV.p R1.cs)]⟩
 (eU X R1))
 (.test (op==15)
 (.call ⟨131,[.mp 0 0,sI .i64 X.tR,sI .i64 q],[aV X.M X.tP X.tR X.own R.h 1 R.k R.e R.p R.nx,.ob (aD.gr 160 true) (ab6 aa (ab6 AV.p R.cs))],.au [],[aV X.M X.tP X.tR X.own R1.h 2 R1.k R1.e R1.p R1.nx,.dead,.ob (aD.gr 160 true) (ab6 AV.p R1.cs)]⟩
 (.call ⟨128,[.mp 0 0,sI .i64 q],[aV X.M X.tP X.tR X.own R1.h 1 R1.k R1.e R1.p R1.nx,.ob (aD.gr 160 true) (ab6 aa (ab6 aa (ab6 AV.p R1.cs)))],.au [],[aV X.M X.tP X.tR X.own R2.h 2 R2.k R2.e R2.p R2.nx,.dead,.ob (aD.gr 160 true) (ab6 AV.p R2.cs)]⟩
 (.out (.ret (.au []) [aV X.M X.tP X.tR X.own R2.h 2 R2.k R2.e R2.p R2.nx,.dead,.ob (aD.gr 160 true) (ab6 aa (ab6 aa (ab6 AV.p R2.cs)))]))))
 (.test (op==16)
 (.call ⟨8,[.agg (qy X.M),sI .u32 a],[],.au [.agg [sI .i64 P,sI .i64 Q],.p (.sc (.bool is))],[]⟩
 (.call ⟨134,[.mp 0 0,.p (.sc (.bool is)),sI .i64 6,sI .i64 q],[aV X.M X.tP X.tR X.own R.h 1 R.k R.e R.p R.nx,.ob (aD.gr 160 true) (ab6 aa (ab6 AV.p R.cs))],.au [],[aV X.M X.tP X.tR X.own R2.h 1 R2.k R2.e R2.p R2.nx,.ob (aD.gr 160 true) (ab6 AV.p R2.cs)]⟩
 (.call ⟨135,[.mp 0 0,.agg [sI .i64 P,sI .i64 Q],sI .i64 q],[aV X.M X.tP X.tR X.own R2.h 1 R2.k R2.e R2.p R2.nx,.ob (aD.gr 160 true) (ab6 aa (ab6 aa (ab6 AV.p R2.cs)))],.au [],[aV X.M X.tP X.tR X.own R3.h 2 R3.k R3.e R3.p R3.nx,.dead,.ob (aD.gr 160 true) (ab6 AV.p R3.cs)]⟩
 (fC X R3))))
 (.must (!(op==17))
 (.call ⟨136,[.mp 0 0,.agg [sI .i64 op,sI .i64 r,sI .u32 a,sI .u32 b,sI .i32 nn,.p (.ps tg.length 1 (dZ abY tg)),.p (.ps ll.length 8 (aq ll)),.p (.ps le.length 8 (aq le))],sI .i64 q],[aV X.M X.tP X.tR X.own R.h 1 R.k R.e R.p R.nx,.ob (aD.gr 160 true) (ab6 aa (ab6 AV.p R.cs))],.au [],[aV X.M X.tP X.tR X.own R1.h 2 R1.k R1.e R1.p R1.nx,.dead,.ob (aD.gr 160 true) (ab6 AV.p R1.cs)]⟩
 (eU X R1))))))))))))
theorem ji (X:Lx) (R:Rw) (R1:Rw) (R2:Rw) (R3:Rw) (R4:Rw) (R5:Rw) (R6:Rw) (R7:Rw) (op r a b nn:Int) (tg:List Int) (ll:List Ins) (le:List Ins) (q v P Q:Int) (is:Bool):aG acb env XD 1000000 116 ([AV.mp 0 0,dO op r a b nn tg ll le,sI sb q]) (eK X R) (aa5 X R R1 R2 R3 R4 R5 R6 R7 op r a b nn tg ll le q v P Q is)=jJ X R R1 R2 R3 R4 R5 R6 R7 op r a b nn tg ll le q v P Q is:=by kernel_rfl
def XE:bH:=aT aH aA [] [(116,0,0),(116,0,1),(116,0,2),(116,0,3),(116,0,4),(116,0,5),(116,0,6),(116,0,7),(116,0,8),(116,0,9),(116,0,10)] [(116,0,10),(116,0,11)]
def aa6 (X:Lx) (R:Rw) (R1:Rw) (R2:Rw) (R3:Rw) (R4:Rw) (R5:Rw) (R6:Rw) (R7:Rw) (op r a b nn:Int) (tg:List Int) (ll:List Ins) (le:List Ins) (q v P Q:Int) (is:Bool):Sc:=(.no (.no (.no (.no (.no (.no (.no (.no (.no (.yes (.ans 134 (.au []) ([aV X.M X.tP X.tR X.own R1.h 1 R1.k R1.e R1.p R1.nx,.ob (aD.gr 160 true) (ab6 AV.p R1.cs)]) (.ans 131 (.au []) ([aV X.M X.tP X.tR X.own R2.h 2 R2.k R2.e R2.p R2.nx,.dead,.ob (aD.gr 160 true) (ab6 AV.p R2.cs)]) (.fork (.ans 135 (.au []) ([aV X.M X.tP X.tR X.own R3.h 2 R3.k R3.e R3.p R3.nx,.dead,.ob (aD.gr 160 true) (ab6 AV.p R3.cs)]) .fin) .fin)))))))))))))
def IU (X:Lx) (R:Rw) (R1:Rw) (R2:Rw) (R3:Rw) (R4:Rw) (R5:Rw) (R6:Rw) (R7:Rw) (op r a b nn:Int) (tg:List Int) (ll:List Ins) (le:List Ins) (q v P Q:Int) (is:Bool):az:=
 (.must (!(op==0))
 (.must (!(op==2))
 (.must (!(op==3))
 (.must (!(op==4))
 (.must (!(op==12))
 (.must (!(op==13))
 (.must (!(op==14))
 (.must (!(op==15))
 (.must (!(op==16))
 (.must (op==17)
 (.must (ej (.p (.sc (.bool (decide ((↑X.M.sL:Int)>0))))) (sB true)&&true&&true)
 (.call ⟨134,[.mp 0 0,.p (.sc (.bool (decide (ae6.wrap a<ae6.wrap (↑X.M.ny:Int))))),sI .i64 6,sI .i64 q],[aV X.M X.tP X.tR X.own R.h 1 R.k R.e R.p R.nx,.ob (aD.gr 160 true) (ab6 aa (ab6 AV.p R.cs))],.au [],[aV X.M X.tP X.tR X.own R1.h 1 R1.k R1.e R1.p R1.nx,.ob (aD.gr 160 true) (ab6 AV.p R1.cs)]⟩
 (.call ⟨131,[.mp 0 0,sI .i64 1,sI .i64 q],[aV X.M X.tP X.tR X.own R1.h 1 R1.k R1.e R1.p R1.nx,.ob (aD.gr 160 true) (ab6 aa (ab6 aa (ab6 AV.p R1.cs)))],.au [],[aV X.M X.tP X.tR X.own R2.h 2 R2.k R2.e R2.p R2.nx,.dead,.ob (aD.gr 160 true) (ab6 AV.p R2.cs)]⟩
 (.test (decide (ae6.wrap a<ae6.wrap (↑X.M.ny:Int)))
 (.must (aW a X.M.ny&&true&&true&&(isInt sb (aF X.M.tS (a.toNat*2))&&(isInt sb (aF X.M.tS (a.toNat*2+1))&&true)&&true&&ej (.agg [sI .i64 (av (aF X.M.tS (a.toNat*2))),sI .i64 (av (aF X.M.tS (a.toNat*2+1)))]) (.agg [sI .i64 P,sI .i64 Q])&&true)&&true)
 (.call ⟨135,[.mp 0 0,.agg [sI .i64 P,sI .i64 Q],sI .i64 q],[aV X.M X.tP X.tR X.own R2.h 1 R2.k R2.e R2.p R2.nx,.ob (aD.gr 160 true) (ab6 aa (ab6 aa (ab6 AV.p R2.cs)))],.au [],[aV X.M X.tP X.tR X.own R3.h 2 R3.k R3.e R3.p R3.nx,.dead,.ob (aD.gr 160 true) (ab6 AV.p R3.cs)]⟩
 (.out (.ret (.au []) [aV X.M X.tP X.tR X.own R3.h 2 R3.k R3.e R3.p R3.nx,.dead,.ob (aD.gr 160 true) (ab6 aa (ab6 aa (ab6 AV.p R3.cs)))]))))
 (.out (.ret (.au []) [aV X.M X.tP X.tR X.own R2.h 2 R2.k R2.e R2.p R2.nx,.dead,.ob (aD.gr 160 true) (ab6 aa (ab6 aa (ab6 AV.p R2.cs)))]))))))))))))))))
theorem O7 (X:Lx) (R:Rw) (R1:Rw) (R2:Rw) (R3:Rw) (R4:Rw) (R5:Rw) (R6:Rw) (R7:Rw) (op r a b nn:Int) (tg:List Int) (ll:List Ins) (le:List Ins) (q v P Q:Int) (is:Bool):aG acb (aej X R R1 R2 R3 R4 R5 R6 R7 op r a b nn tg ll le q v P Q is) XE 1000000 116 ([AV.mp 0 0,dO op r a b nn tg ll le,sI sb q]) (eK X R) (aa6 X R R1 R2 R3 R4 R5 R6 R7 op r a b nn tg ll le q v P Q is)=IU X R R1 R2 R3 R4 R5 R6 R7 op r a b nn tg ll le q v P Q is:=by kernel_rfl
def XF:bH:=aT aH aA [] [(116,0,0),(116,0,1),(116,0,2),(116,0,3),(116,0,4),(116,0,5),(116,0,6),(116,0,7),(116,0,8),(116,0,9)] [(116,0,10)]
def aa7 (X:Lx) (R:Rw) (R1:Rw) (R2:Rw) (R3:Rw) (R4:Rw) (R5:Rw) (R6:Rw) (R7:Rw) (op r a b nn:Int) (tg:List Int) (ll:List Ins) (le:List Ins) (q v P Q:Int) (is:Bool):Sc:=(.no (.no (.no (.no (.no (.no (.no (.no (.no (.yes (.ans 134 (.au []) ([aV X.M X.tP X.tR X.own R1.h 1 R1.k R1.e R1.p R1.nx,.ob (aD.gr 160 true) (ab6 AV.p R1.cs)]) (.ans 131 (.au []) ([aV X.M X.tP X.tR X.own R2.h 2 R2.k R2.e R2.p R2.nx,.dead,.ob (aD.gr 160 true) (ab6 AV.p R2.cs)]) .fin))))))))))))
def IV (X:Lx) (R:Rw) (R1:Rw) (R2:Rw) (R3:Rw) (R4:Rw) (R5:Rw) (R6:Rw) (R7:Rw) (op r a b nn:Int) (tg:List Int) (ll:List Ins) (le:List Ins) (q v P Q:Int) (is:Bool):az:=
 (.must (!(op==0))
 (.must (!(op==2))
 (.must (!(op==3))
 (.must (!(op==4))
 (.must (!(op==12))
 (.must (!(op==13))
 (.must (!(op==14))
 (.must (!(op==15))
 (.must (!(op==16))
 (.must (op==17)
 (.must (ej (.p (.sc (.bool (decide ((↑X.M.sL:Int)>0))))) (sB false)&&true&&true)
 (.call ⟨134,[.mp 0 0,sB false,sI .i64 6,sI .i64 q],[aV X.M X.tP X.tR X.own R.h 1 R.k R.e R.p R.nx,.ob (aD.gr 160 true) (ab6 aa (ab6 AV.p R.cs))],.au [],[aV X.M X.tP X.tR X.own R1.h 1 R1.k R1.e R1.p R1.nx,.ob (aD.gr 160 true) (ab6 AV.p R1.cs)]⟩
 (.call ⟨131,[.mp 0 0,sI .i64 1,sI .i64 q],[aV X.M X.tP X.tR X.own R1.h 1 R1.k R1.e R1.p R1.nx,.ob (aD.gr 160 true) (ab6 aa (ab6 aa (ab6 AV.p R1.cs)))],.au [],[aV X.M X.tP X.tR X.own R2.h 2 R2.k R2.e R2.p R2.nx,.dead,.ob (aD.gr 160 true) (ab6 AV.p R2.cs)]⟩
 (.out (.ret (.au []) [aV X.M X.tP X.tR X.own R2.h 2 R2.k R2.e R2.p R2.nx,.dead,.ob (aD.gr 160 true) (ab6 aa (ab6 aa (ab6 AV.p R2.cs)))])))))))))))))))
theorem O8 (X:Lx) (R:Rw) (R1:Rw) (R2:Rw) (R3:Rw) (R4:Rw) (R5:Rw) (R6:Rw) (R7:Rw) (op r a b nn:Int) (tg:List Int) (ll:List Ins) (le:List Ins) (q v P Q:Int) (is:Bool):aG acb (aek X R R1 R2 R3 R4 R5 R6 R7 op r a b nn tg ll le q v P Q is) XF 1000000 116 ([AV.mp 0 0,dO op r a b nn tg ll le,sI sb q]) (eK X R) (aa7 X R R1 R2 R3 R4 R5 R6 R7 op r a b nn tg ll le q v P Q is)=IV X R R1 R2 R3 R4 R5 R6 R7 op r a b nn tg ll le q v P Q is:=by kernel_rfl
def XG:bH:=aT aH aA [] [(129,0,0)] []
def aa8 (X:Lx) (R:Rw) (R1:Rw) (R2:Rw) (R3:Rw) (R4:Rw) (R5:Rw) (R6:Rw) (R7:Rw) (op r a b nn:Int) (tg:List Int) (ll:List Ins) (le:List Ins) (q:Int):Sc:=(.yes (.ans 156 (.au []) ([aV X.M X.tP X.tR X.own R1.h 2 R1.k R1.e R1.p R1.nx,.dead,.ob (aD.gr 160 true) (ab6 AV.p R1.cs)]) (.ans 84 (.au []) ([aV X.M X.tP X.tR X.own R2.h 2 R2.k R2.e R2.p R2.nx,.dead,.ob (aD.gr 160 true) (ab6 AV.p R2.cs)]) (.ans 85 (.au []) ([aV X.M X.tP X.tR X.own R3.h 2 R3.k R3.e R3.p R3.nx,.dead,.ob (aD.gr 160 true) (ab6 AV.p R3.cs)]) .fin))))
def IW (X:Lx) (R:Rw) (R1:Rw) (R2:Rw) (R3:Rw) (R4:Rw) (R5:Rw) (R6:Rw) (R7:Rw) (op r a b nn:Int) (tg:List Int) (ll:List Ins) (le:List Ins) (q:Int):az:=
 (.must (op != 4)
 (.call ⟨156,[.mp 0 0,sI .i64 op,sI .i64 r,sI .i64 q],[aV X.M X.tP X.tR X.own R.h 1 R.k R.e R.p R.nx,.ob (aD.gr 160 true) (ab6 aa (ab6 AV.p R.cs))],.au [],[aV X.M X.tP X.tR X.own R1.h 2 R1.k R1.e R1.p R1.nx,.dead,.ob (aD.gr 160 true) (ab6 AV.p R1.cs)]⟩
 (.call ⟨84,[.mp 0 0,.p (.ps ll.length 8 (aq ll))],[aV X.M X.tP X.tR X.own R1.h 1 R1.k R1.e R1.p R1.nx,.ob (aD.gr 160 true) (ab6 aa (ab6 aa (ab6 AV.p R1.cs)))],.au [],[aV X.M X.tP X.tR X.own R2.h 2 R2.k R2.e R2.p R2.nx,.dead,.ob (aD.gr 160 true) (ab6 AV.p R2.cs)]⟩
 (.call ⟨85,[.mp 0 0,sI .i64 q],[aV X.M X.tP X.tR X.own R2.h 1 R2.k R2.e R2.p R2.nx,.ob (aD.gr 160 true) (ab6 aa (ab6 aa (ab6 AV.p R2.cs)))],.au [],[aV X.M X.tP X.tR X.own R3.h 2 R3.k R3.e R3.p R3.nx,.dead,.ob (aD.gr 160 true) (ab6 AV.p R3.cs)]⟩
 (.out (.ret (.au []) [aV X.M X.tP X.tR X.own R3.h 2 R3.k R3.e R3.p R3.nx,.dead,.ob (aD.gr 160 true) (ab6 aa (ab6 aa (ab6 AV.p R3.cs)))]))))))
theorem O9 (X:Lx) (R:Rw) (R1:Rw) (R2:Rw) (R3:Rw) (R4:Rw) (R5:Rw) (R6:Rw) (R7:Rw) (op r a b nn:Int) (tg:List Int) (ll:List Ins) (le:List Ins) (q:Int):aG acb env XG 1000000 129 ([AV.mp 0 0,dO op r a b nn tg ll le,sI sb q]) (eK X R) (aa8 X R R1 R2 R3 R4 R5 R6 R7 op r a b nn tg ll le q)=IW X R R1 R2 R3 R4 R5 R6 R7 op r a b nn tg ll le q:=by kernel_rfl
def XH:bH:=aT aH aA [] [(129,0,1)] []
def aa9 (X:Lx) (R:Rw) (R1:Rw) (R2:Rw) (R3:Rw) (R4:Rw) (R5:Rw) (R6:Rw) (R7:Rw) (r a b nn:Int) (tg:List Int) (ll:List Ins) (le:List Ins) (q:Int):Sc:=(.ans 131 (.au []) ([aV X.M X.tP X.tR X.own R1.h 2 R1.k R1.e R1.p R1.nx,.dead,.ob (aD.gr 160 true) (ab6 AV.p R1.cs)]) (.ans 156 (.au []) ([aV X.M X.tP X.tR X.own R2.h 2 R2.k R2.e R2.p R2.nx,.dead,.ob (aD.gr 160 true) (ab6 AV.p R2.cs)]) (.ans 84 (.au []) ([aV X.M X.tP X.tR X.own R3.h 2 R3.k R3.e R3.p R3.nx,.dead,.ob (aD.gr 160 true) (ab6 AV.p R3.cs)]) (.ans 85 (.au []) ([aV X.M X.tP X.tR X.own R4.h 2 R4.k R4.e R4.p R4.nx,.dead,.ob (aD.gr 160 true) (ab6 AV.p R4.cs)]) (.fork .fin (.ans 156 (.au []) ([aV X.M X.tP X.tR X.own R5.h 2 R5.k R5.e R5.p R5.nx,.dead,.ob (aD.gr 160 true) (ab6 AV.p R5.cs)]) (.ans 84 (.au []) ([aV X.M X.tP X.tR X.own R6.h 2 R6.k R6.e R6.p R6.nx,.dead,.ob (aD.gr 160 true) (ab6 AV.p R6.cs)]) (.ans 85 (.au []) ([aV X.M X.tP X.tR X.own R7.h 2 R7.k R7.e R7.p R7.nx,.dead,.ob (aD.gr 160 true) (ab6 AV.p R7.cs)]) .fin))))))))
def IX (X:Lx) (R:Rw) (R1:Rw) (R2:Rw) (R3:Rw) (R4:Rw) (R5:Rw) (R6:Rw) (R7:Rw) (r a b nn:Int) (tg:List Int) (ll:List Ins) (le:List Ins) (q:Int):az:=
 (.call ⟨131,[.mp 0 0,sI .i64 1,sI .i64 q],[aV X.M X.tP X.tR X.own R.h 1 R.k R.e R.p R.nx,.ob (aD.gr 160 true) (ab6 aa (ab6 AV.p R.cs))],.au [],[aV X.M X.tP X.tR X.own R1.h 2 R1.k R1.e R1.p R1.nx,.dead,.ob (aD.gr 160 true) (ab6 AV.p R1.cs)]⟩
 (.call ⟨156,[.mp 0 0,sI .i64 4,sI .i64 r,sI .i64 q],[aV X.M X.tP X.tR X.own R1.h 1 R1.k R1.e R1.p R1.nx,.ob (aD.gr 160 true) (ab6 aa (ab6 aa (ab6 AV.p R1.cs)))],.au [],[aV X.M X.tP X.tR X.own R2.h 2 R2.k R2.e R2.p R2.nx,.dead,.ob (aD.gr 160 true) (ab6 AV.p R2.cs)]⟩
 (.call ⟨84,[.mp 0 0,.p (.ps ll.length 8 (aq ll))],[aV X.M X.tP X.tR X.own R2.h 1 R2.k R2.e R2.p R2.nx,.ob (aD.gr 160 true) (ab6 aa (ab6 aa (ab6 AV.p R2.cs)))],.au [],[aV X.M X.tP X.tR X.own R3.h 2 R3.k R3.e R3.p R3.nx,.dead,.ob (aD.gr 160 true) (ab6 AV.p R3.cs)]⟩
 (.call ⟨85,[.mp 0 0,sI .i64 q],[aV X.M X.tP X.tR X.own R3.h 1 R3.k R3.e R3.p R3.nx,.ob (aD.gr 160 true) (ab6 aa (ab6 aa (ab6 AV.p R3.cs)))],.au [],[aV X.M X.tP X.tR X.own R4.h 2 R4.k R4.e R4.p R4.nx,.dead,.ob (aD.gr 160 true) (ab6 AV.p R4.cs)]⟩
 (.test (R4.e != 0)
 (.out (.ret (.au []) [aV X.M X.tP X.tR X.own R4.h 2 R4.k R4.e R4.p R4.nx,.dead,.ob (aD.gr 160 true) (ab6 aa (ab6 aa (ab6 AV.p R4.cs)))]))
 (.call ⟨156,[.mp 0 0,sI .i64 5,sI .i64 r,sI .i64 q],[aV X.M X.tP X.tR X.own R1.h 1 R1.k R4.e R4.p R4.nx,.dead],.au [],[aV X.M X.tP X.tR X.own R5.h 2 R5.k R5.e R5.p R5.nx,.dead,.ob (aD.gr 160 true) (ab6 AV.p R5.cs)]⟩
 (.call ⟨84,[.mp 0 0,.p (.ps le.length 8 (aq le))],[aV X.M X.tP X.tR X.own R5.h 1 R5.k R5.e R5.p R5.nx,.ob (aD.gr 160 true) (ab6 aa (ab6 aa (ab6 AV.p R5.cs)))],.au [],[aV X.M X.tP X.tR X.own R6.h 2 R6.k R6.e R6.p R6.nx,.dead,.ob (aD.gr 160 true) (ab6 AV.p R6.cs)]⟩
 (.call ⟨85,[.mp 0 0,sI .i64 q],[aV X.M X.tP X.tR X.own R6.h 1 R6.k R6.e R6.p R6.nx,.ob (aD.gr 160 true) (ab6 aa (ab6 aa (ab6 AV.p R6.cs)))],.au [],[aV X.M X.tP X.tR X.own R7.h 2 R7.k R7.e R7.p R7.nx,.dead,.ob (aD.gr 160 true) (ab6 AV.p R7.cs)]⟩
 (.out (.ret (.au []) [aV X.M X.tP X.tR X.own R7.h 2 R7.k R7.e R7.p R7.nx,.dead,.ob (aD.gr 160 true) (ab6 aa (ab6 aa (ab6 AV.p R7.cs)))]))))))))))
theorem Pa (X:Lx) (R:Rw) (R1:Rw) (R2:Rw) (R3:Rw) (R4:Rw) (R5:Rw) (R6:Rw) (R7:Rw) (r a b nn:Int) (tg:List Int) (ll:List Ins) (le:List Ins) (q:Int):aG acb env XH 1000000 129 ([AV.mp 0 0,dO 4 r a b nn tg ll le,sI sb q]) (eK X R) (aa9 X R R1 R2 R3 R4 R5 R6 R7 r a b nn tg ll le q)=IX X R R1 R2 R3 R4 R5 R6 R7 r a b nn tg ll le q:=by kernel_rfl
def XI:bH:=aT aH aA [] [(129,0,1)] []
def aba (X:Lx) (R:Rw) (R1:Rw) (R2:Rw) (R3:Rw) (R4:Rw) (R5:Rw) (R6:Rw) (R7:Rw) (r a b nn:Int) (tg:List Int) (ll:List Ins) (le:List Ins) (q:Int):Sc:=(.ans 131 (.au []) ([aV X.M X.tP X.tR X.own R1.h 2 R1.k R1.e R1.p R1.nx,.dead,.ob (aD.gr 160 true) (ab6 AV.p R1.cs)]) (.ans 156 (.au []) ([aV X.M X.tP X.tR X.own R2.h 2 R2.k R2.e R2.p R2.nx,.ob (aD.gr 160 true) (ab6 aa (ab6 aa (ab6 AV.p R1.cs))),.ob (aD.gr 160 true) (ab6 AV.p R2.cs)]) (.ans 84 (.au []) ([aV X.M X.tP X.tR X.own R3.h 2 R3.k R3.e R3.p R3.nx,.dead,.ob (aD.gr 160 true) (ab6 AV.p R3.cs)]) (.ans 85 (.au []) ([aV X.M X.tP X.tR X.own R4.h 2 R4.k R4.e R4.p R4.nx,.dead,.ob (aD.gr 160 true) (ab6 AV.p R4.cs)]) (.fork .fin (.ans 156 (.au []) ([aV X.M X.tP X.tR X.own R5.h 2 R5.k R5.e R5.p R5.nx,.dead,.ob (aD.gr 160 true) (ab6 AV.p R5.cs)]) (.ans 84 (.au []) ([aV X.M X.tP X.tR X.own R6.h 2 R6.k R6.e R6.p R6.nx,.dead,.ob (aD.gr 160 true) (ab6 AV.p R6.cs)]) (.ans 85 (.au []) ([aV X.M X.tP X.tR X.own R7.h 2 R7.k R7.e R7.p R7.nx,.dead,.ob (aD.gr 160 true) (ab6 AV.p R7.cs)]) .fin))))))))
def IY (X:Lx) (R:Rw) (R1:Rw) (R2:Rw) (R3:Rw) (R4:Rw) (R5:Rw) (R6:Rw) (R7:Rw) (r a b nn:Int) (tg:List Int) (ll:List Ins) (le:List Ins) (q:Int):az:=
 (.call ⟨131,[.mp 0 0,sI .i64 1,sI .i64 q],[aV X.M X.tP X.tR X.own R.h 1 R.k R.e R.p R.nx,.ob (aD.gr 160 true) (ab6 aa (ab6 AV.p R.cs))],.au [],[aV X.M X.tP X.tR X.own R1.h 2 R1.k R1.e R1.p R1.nx,.dead,.ob (aD.gr 160 true) (ab6 AV.p R1.cs)]⟩
 (.call ⟨156,[.mp 0 0,sI .i64 4,sI .i64 r,sI .i64 q],[aV X.M X.tP X.tR X.own R1.h 1 R1.k R1.e R1.p R1.nx,.ob (aD.gr 160 true) (ab6 aa (ab6 aa (ab6 AV.p R1.cs)))],.au [],[aV X.M X.tP X.tR X.own R2.h 2 R2.k R2.e R2.p R2.nx,.ob (aD.gr 160 true) (ab6 aa (ab6 aa (ab6 AV.p R1.cs))),.ob (aD.gr 160 true) (ab6 AV.p R2.cs)]⟩
 (.call ⟨84,[.mp 0 0,.p (.ps ll.length 8 (aq ll))],[aV X.M X.tP X.tR X.own R2.h 1 R2.k R2.e R2.p R2.nx,.ob (aD.gr 160 true) (ab6 aa (ab6 aa (ab6 AV.p R2.cs)))],.au [],[aV X.M X.tP X.tR X.own R3.h 2 R3.k R3.e R3.p R3.nx,.dead,.ob (aD.gr 160 true) (ab6 AV.p R3.cs)]⟩
 (.call ⟨85,[.mp 0 0,sI .i64 q],[aV X.M X.tP X.tR X.own R3.h 1 R3.k R3.e R3.p R3.nx,.ob (aD.gr 160 true) (ab6 aa (ab6 aa (ab6 AV.p R3.cs)))],.au [],[aV X.M X.tP X.tR X.own R4.h 2 R4.k R4.e R4.p R4.nx,.dead,.ob (aD.gr 160 true) (ab6 AV.p R4.cs)]⟩
 (.test (R4.e != 0)
 (.out (.ret (.au []) [aV X.M X.tP X.tR X.own R4.h 2 R4.k R4.e R4.p R4.nx,.dead,.ob (aD.gr 160 true) (ab6 aa (ab6 aa (ab6 AV.p R4.cs)))]))
 (.call ⟨156,[.mp 0 0,sI .i64 5,sI .i64 r,sI .i64 q],[aV X.M X.tP X.tR X.own R1.h 1 R1.k R4.e R4.p R4.nx,.ob (aD.gr 160 true) (ab6 aa (ab6 aa (ab6 aa (ab6 aa (ab6 AV.p R1.cs)))))],.au [],[aV X.M X.tP X.tR X.own R5.h 2 R5.k R5.e R5.p R5.nx,.dead,.ob (aD.gr 160 true) (ab6 AV.p R5.cs)]⟩
 (.call ⟨84,[.mp 0 0,.p (.ps le.length 8 (aq le))],[aV X.M X.tP X.tR X.own R5.h 1 R5.k R5.e R5.p R5.nx,.ob (aD.gr 160 true) (ab6 aa (ab6 aa (ab6 AV.p R5.cs)))],.au [],[aV X.M X.tP X.tR X.own R6.h 2 R6.k R6.e R6.p R6.nx,.dead,.ob (aD.gr 160 true) (ab6 AV.p R6.cs)]⟩
 (.call ⟨85,[.mp 0 0,sI .i64 q],[aV X.M X.tP X.tR X.own R6.h 1 R6.k R6.e R6.p R6.nx,.ob (aD.gr 160 true) (ab6 aa (ab6 aa (ab6 AV.p R6.cs)))],.au [],[aV X.M X.tP X.tR X.own R7.h 2 R7.k R7.e R7.p R7.nx,.dead,.ob (aD.gr 160 true) (ab6 AV.p R7.cs)]⟩
 (.out (.ret (.au []) [aV X.M X.tP X.tR X.own R7.h 2 R7.k R7.e R7.p R7.nx,.dead,.ob (aD.gr 160 true) (ab6 aa (ab6 aa (ab6 AV.p R7.cs)))]))))))))))
theorem Pb (X:Lx) (R:Rw) (R1:Rw) (R2:Rw) (R3:Rw) (R4:Rw) (R5:Rw) (R6:Rw) (R7:Rw) (r a b nn:Int) (tg:List Int) (ll:List Ins) (le:List Ins) (q:Int):aG acb env XI 1000000 129 ([AV.mp 0 0,dO 4 r a b nn tg ll le,sI sb q]) (eK X R) (aba X R R1 R2 R3 R4 R5 R6 R7 r a b nn tg ll le q)=IY X R R1 R2 R3 R4 R5 R6 R7 r a b nn tg ll le q:=by kernel_rfl
end Go.Proofs.YtdmmllcjgjmbbaaGreatDoor.N
end
section
set_option linter.unusedSimpArgs false
namespace Go.Proofs.YtdmmllcjgjmbbaaGreatDoor.N
open Go Go.Am
theorem IZ {h h':Int} {t:Fr} {d:Bool} : ∀{o:List Fr} {b:Int},yK h b (o++[t])→t.base≤h'→yK h' b (o++[⟨t.op,t.base,t.res,d⟩])∧b≤t.base
 |[],_,⟨h1,h2,_,h4,h5,_⟩,hh=>⟨⟨h1,h2,hh,h4,h5,trivial⟩,h2⟩
 |f::o,b,⟨h1,h2,h3,h4,h5,h6⟩,hh=>by
  obtain⟨q1,q2⟩:=IZ (o:=o) h6 hh
  exact⟨⟨h1,h2,by omega,h4,h5,q1⟩,by omega⟩
theorem kA {h h':Int} {o:List Fr} {t:Fr} {d:Bool} (hk:fV h (o++[t])) (h1:t.base≤h') (h2:h'≤1073741824):fV h' (o++[⟨t.op,t.base,t.res,d⟩]):=by
 cases o with
 |nil=>
  obtain⟨k1,k2,k3,k4,k5,k6,k7,k8⟩:=hk
  exact⟨k1,k2,k3,k4,trivial,by omega,h2,k8⟩
 |cons f o=>
  obtain⟨k1,k2,k3,k4,k5,k6,k7,k8⟩:=hk
  obtain⟨q1,q2⟩:=IZ (d:=d) k5 h1
  exact⟨k1,k2,k3,k4,q1,by omega,h2,by simpa using k8⟩
theorem ET {h op n:Int} (ho:op=2∨op=3∨op=4∨op=5) (hn:0≤n) (hn1:n≤1) : ∀{o:List Fr} {b:Int},yK h b o→b≤h→yK h b (o++[⟨op,h,n,false⟩])
 |[],_,_,hb=>⟨ho,hb,afh _,hn,hn1,trivial⟩
 |_::_,_,⟨h1,h2,h3,h4,h5,h6⟩,_=>⟨h1,h2,h3,h4,h5,ET ho hn hn1 h6 h3⟩
theorem EU {h op n:Int} {o:List Fr} (hk:fV h o) (ho:op=2∨op=3∨op=4∨op=5) (hn:0≤n) (hn1:n≤1) (hl:o.length<1000):fV h (o++[⟨op,h,n,false⟩]):=by
 cases o with
 |nil=>exact hk.elim
 |cons f o=>
  obtain⟨k1,k2,k3,k4,k5,k6,k7,k8⟩:=hk
  exact⟨k1,k2,k3,k4,ET ho hn hn1 k5 k6,k6,k7,by simp at hl ⊢;omega⟩
theorem EV {h:Int} : ∀{l m:List Fr} {b:Int},yK h b (l++m)→yK h b l
 |[],_,_,_=>trivial
 |_::_,_,_,⟨h1,h2,h3,h4,h5,h6⟩=>⟨h1,h2,h3,h4,h5,EV h6⟩
theorem EW {h:Int} {l m:List Fr} (hk:fV h (l++m)) (hl:l≠[]):fV h l:=by
 cases l with
 |nil=>exact absurd rfl hl
 |cons f o=>
  obtain⟨k1,k2,k3,k4,k5,k6,k7,k8⟩:=hk
  exact⟨k1,k2,k3,k4,EV k5,k6,k7,by simp at k8;omega⟩
theorem Bt {h:Int} {s t:Fr} : ∀{o:List Fr} {b:Int},yK h b (o++[s]++[t])→s.base≤t.base
 |[],_,⟨_,_,_,_,_,_,h2,_⟩=>h2
 |_::o,_,⟨_,_,_,_,_,h6⟩=>Bt (o:=o) h6
theorem CZ {h:Int} {s t:Fr} {o:List Fr} (hk:fV h (o++[s]++[t])):s.base≤t.base:=by
 cases o with
 |nil=>
  obtain⟨k1,k2,k3,k4,⟨_,q2,_⟩,k6,k7,k8⟩:=hk
  rw[k2];exact q2
 |cons f o=>
  obtain⟨k1,k2,k3,k4,k5,k6,k7,k8⟩:=hk
  exact Bt (o:=o) k5
def bt (l:List Fr):List Nat:=l.reverse.map fun f=>if f.op=3 then 0 else f.res.toNat
theorem Pc (l:List Fr) (t:Fr):bt (l++[t])=(if t.op=3 then 0 else t.res.toNat)::bt l:=by simp[bt]
structure oA (R:Rw) (o:List Fr) (t:Fr) (n:Nat):Prop where
 h:R.h=t.base+n
 k:R.k=o.length+1
 cs : ∃ex,R.cs=aO (o++[t])++ex
 ok:fV R.h (o++[t])
structure dP (R:Rw) (o:List Fr) (t:Fr) (n c:Nat):Prop extends iy:oA R o t n where
 e:R.e=0
 nx:R.nx=c
 p0:R.p=0
 le:R.h≤c
def dj (o:List Fr) (t:Fr) (R:Rw):VR→Prop
 |.bw e q=>R.e=e∧e≠0∧R.p=q
 |.ok n d c=>dP R o ⟨t.op,t.base,t.res,d⟩ n c
theorem jw {z:Int} (h1:0≤z) (h2:z≤18446744073709551615):ae6.wrap z=z:=by
 show z%18446744073709551616=z
 omega
section
variable {X:Lx} {R:Rw} {o:List Fr} {t:Fr} {n c:Nat}
theorem oA.GR (g:oA R o t n):0≤t.base∧0≤t.res∧t.res≤1∧R.h≤1073741824∧o.length+1≤1000:=by
 obtain⟨q1,q2,q3⟩:=uX g.ok
 obtain⟨m1,m2,m3,m4⟩:=jh g.ok t (by simp)
 exact⟨m1,m3,m4,q2,by simpa using q3⟩
theorem o9 (g:dP R o t n c) (m q:Nat) : ∃R',cQ X 131 [sI .i64 m,sI .i64 q] R R'∧dj o t R' (dF q m n t.dead fun n'=> .ok n' t.dead c)∧R'.h≤R.h∧R'.nx=R.nx:=by
 obtain⟨ex,hex⟩:=g.cs
 obtain⟨b1,b2,b3,b4,b5⟩:=g.iy.GR
 have hh:=g.h
 have hle:=g.le
 by_cases hb:n<m∧t.dead=false
 · have hd:=SD ex g.ok (n:=m) (by omega) (by omega) hb.2
   rw[←g.k,←hex] at hd
   refine⟨_,aea (X:=X) (q:=q) g.e (by decide) hd,?_,afh _,rfl⟩
   rw[dF,if_pos hb]
   exact⟨rfl,by decide,rfl⟩
 · rw[dF,if_neg hb]
   by_cases hm:m≤n
   · have hd:=Xv ex g.ok (n:=m) (by omega) (by omega)
     rw[←g.k,←hex] at hd
     refine⟨_,aaZ (X:=X) (q:=q) g.e hd,⟨⟨?_,g.k,⟨[],by simp⟩,kA g.ok ?_ ?_⟩,rfl,g.nx,g.p0,?_⟩,?_,rfl⟩<;>simp only<;>omega
   · have hdd:t.dead=true:=by cases hd:t.dead<;>simp_all<;>omega
     have hd:=OO ex g.ok (n:=m) (by omega) (by omega) hdd
     rw[←g.k,←hex] at hd
     refine⟨_,aaZ (X:=X) (q:=q) g.e hd,⟨⟨?_,g.k,⟨[],by simp⟩,kA g.ok ?_ ?_⟩,rfl,g.nx,g.p0,?_⟩,?_,rfl⟩<;>simp only<;>omega
theorem Pd (g:dP R o t n c) (m q:Nat) (hm:R.h+m≤c) (hc:c≤1000000000) : ∃R',cQ X 132 [sI .i64 m,sI .i64 q] R R'∧dP R' o t (n+m) c:=by
 obtain⟨ex,hex⟩:=g.cs
 obtain⟨b1,b2,b3,b4,b5⟩:=g.iy.GR
 have hh:=g.h
 have hd:=SE ex g.ok (n:=m) (by omega) (by omega)
 rw[←g.k,←hex] at hd
 refine⟨_,aeb (X:=X) (q:=q) g.e hd,⟨⟨?_,g.k,⟨[],by simp⟩,kA (d:=t.dead) g.ok ?_ ?_⟩,rfl,g.nx,g.p0,?_⟩⟩<;>simp only<;>omega
theorem EX (g:dP R o t n c) (q:Nat) : ∃R',cQ X 128 [sI .i64 q] R R'∧dP R' o ⟨t.op,t.base,t.res,true⟩ 0 c∧R'.h≤R.h:=by
 obtain⟨ex,hex⟩:=g.cs
 obtain⟨b1,b2,b3,b4,b5⟩:=g.iy.GR
 have hh:=g.h
 have hle:=g.le
 have hd:=SF ex g.ok
 rw[←g.k,←hex] at hd
 refine⟨_,aec (X:=X) (q:=q) g.e hd,⟨⟨?_,g.k,⟨[],by simp⟩,kA g.ok ?_ ?_⟩,rfl,g.nx,g.p0,?_⟩,?_⟩<;>simp only<;>omega
theorem ael {n r q:Int} {h2:Int} {k2:Nat} {c2:List PV} (he:R.e=0) (hd:an acb env 173 [.agg [sI .i64 R.h,.ms 0 0 R.k 4 none],sI .i64 n,sI .i64 r] [dc R.cs] (.au [.agg [sI .i64 h2,.ms 1 0 k2 4 none],sI .i64 0]) [dc R.cs,dc c2]) :
  an acb env 156 [.mp 0 0,sI .i64 n,sI .i64 r,sI .i64 q] (eK X R) (.au []) [aV X.M X.tP X.tR X.own h2 2 k2 0 R.p R.nx,dc R.cs,dc c2]:=by
 obtain⟨h,k,cs,e,p,nx⟩:=R
 simp only at he hd
 subst he
 refine af aM (yR X.M X.tP X.tR X.own h k cs 0 p nx n q r h2 k2 c2 0) ?_
 simp only[tV,az.ok,aC]
 exact⟨hd,rfl⟩
theorem Kp (g:dP R o t n c) {op r:Int} (q:Nat) (hop:op=2∨op=3∨op=4∨op=5) (hr:0≤r) (HB:r≤1) (ho:o.length+1<1000) :
  ∃R',cQ X 156 [sI .i64 op,sI .i64 r,sI .i64 q] R R'∧an acb env 156 [.mp 0 0,sI .i64 op,sI .i64 r,sI .i64 q] (eK X R) (.au []) [aV X.M X.tP X.tR X.own R'.h 2 R'.k R'.e R'.p R'.nx,dc R.cs,dc R'.cs] ∧
   dP R' (o++[t]) ⟨op,R.h,r,false⟩ 0 c:=by
 obtain⟨ex,hex⟩:=g.cs
 have hle:=g.le
 have hd:=OP ex g.ok hop hr HB ho
 rw[←g.k,←hex] at hd
 refine⟨⟨R.h,o.length+2,aO (o++[t]++[⟨op,R.h,r,false⟩]),0,R.p,R.nx⟩,aee (X:=X) (q:=q) g.e hd,ael (X:=X) (q:=q) g.e hd,⟨⟨?_,?_,⟨[],by simp⟩,EU g.ok hop hr HB (by simpa using ho)⟩,rfl,g.nx,g.p0,hle⟩⟩
 · simp
 · simp
theorem Kq {s:Fr} (g:dP R (o++[s]) t n c) (q:Nat) (hb:t.base+t.res≤c) (hc:c≤1000000000) :
  ∃R',cQ X 85 [sI .i64 q] R R'∧dj o s R' (gM t.res.toNat n t.dead q (.ok ((t.base-s.base).toNat+t.res.toNat) s.dead c)):=by
 obtain⟨ex,hex⟩:=g.cs
 obtain⟨b1,b2,b3,b4,b5⟩:=g.iy.GR
 have hh:=g.h
 have hle:=g.le
 have hs:=CZ g.ok
 have hpre:fV R.h (o++[s]):=EW g.ok (by simp)
 obtain⟨s1,_⟩:=jh hpre s (by simp)
 have hk:R.k=(o++[s]).length+1:=g.k
 rw[gM,dF]
 have fin : ∀(R':Rw),R'=⟨t.base+t.res,(o++[s]).length,aO (o++[s]++[t]),0,R.p,R.nx⟩→dj o s R' (.ok ((t.base-s.base).toNat+t.res.toNat) s.dead c):=by
  intro R' e
  subst e
  refine⟨⟨?_,?_,⟨aO [t],by rw[←mV]⟩,kA (d:=s.dead) hpre ?_ ?_⟩,rfl,g.nx,g.p0,hb⟩<;>simp only[di,List.length_singleton]<;>omega
 by_cases GS:n<t.res.toNat∧t.dead=false
 · have hd:=uY ex g.ok (by omega) GS.2
   rw[←hk,←hex] at hd
   refine⟨_,SY (X:=X) (q:=q) g.e (by decide) hd,?_⟩
   rw[if_pos GS]
   exact⟨rfl,by decide,rfl⟩
 · rw[if_neg GS]
   by_cases hlt:t.res.toNat<n
   · have hd:=yQ ex g.ok (by omega)
     rw[←hk,←hex] at hd
     refine⟨_,SY (X:=X) (q:=q) g.e (by decide) hd,?_⟩
     rw[if_pos (by omega)]
     exact⟨rfl,by decide,rfl⟩
   · rw[if_neg (by omega)]
     by_cases heq:n=t.res.toNat
     · have hd:=EP ex g.ok (by omega)
       rw[←hk,←hex] at hd
       exact⟨_,SX (X:=X) (q:=q) g.e hd,fin _ rfl⟩
     · have hdd:t.dead=true:=by cases hd:t.dead<;>simp_all<;>omega
       have hd:=yP ex g.ok (by omega) hdd
       rw[←hk,←hex] at hd
       exact⟨_,SX (X:=X) (q:=q) g.e hd,fin _ rfl⟩
theorem Kr (g:dP R [] t n c) (q:Nat) :
  ∃R',cQ X 85 [sI .i64 q] R R'∧match gM t.res.toNat n t.dead q (.ok 0 false 0) with
   |.bw e p=>R'.e=e∧R'.p=p
   |.ok .. =>R'.e=0∧R'.p=R.p:=by
 obtain⟨ex,hex⟩:=g.cs
 obtain⟨b1,b2,b3,b4,b5⟩:=g.iy.GR
 have hh:=g.h
 have hk:R.k=([]:List Fr).length+1:=g.k
 rw[gM,dF]
 by_cases GS:n<t.res.toNat∧t.dead=false
 · have hd:=uY ex g.ok (by omega) GS.2
   rw[←hk,←hex] at hd
   refine⟨_,SY (X:=X) (q:=q) g.e (by decide) hd,?_⟩
   rw[if_pos GS]
   exact⟨rfl,rfl⟩
 · rw[if_neg GS]
   by_cases hlt:t.res.toNat<n
   · have hd:=yQ ex g.ok (by omega)
     rw[←hk,←hex] at hd
     refine⟨_,SY (X:=X) (q:=q) g.e (by decide) hd,?_⟩
     rw[if_pos (by omega)]
     exact⟨rfl,rfl⟩
   · rw[if_neg (by omega)]
     by_cases heq:n=t.res.toNat
     · have hd:=EP ex g.ok (by omega)
       rw[←hk,←hex] at hd
       exact⟨_,SX (X:=X) (q:=q) g.e hd,rfl,rfl⟩
     · have hdd:t.dead=true:=by cases hd:t.dead<;>simp_all<;>omega
       have hd:=yP ex g.ok (by omega) hdd
       rw[←hk,←hex] at hd
       exact⟨_,SX (X:=X) (q:=q) g.e hd,rfl,rfl⟩
def oB (R:Rw) (b:Bool) (ec q:Int):Rw:=if b=true∨R.e≠0∨ec=0 then R else⟨R.h,R.k,R.cs,ec,q,R.nx⟩
theorem gd (b:Bool) (ec q:Int):Ask X 134 [sB b,sI .i64 ec,sI .i64 q] (.au []) R (oB R b ec q):=by
 refine af aM (Kn X.M X.tP X.tR X.own R.h R.k R.cs R.e R.p R.nx q ec b) ?_
 simp only[ER,qz,az.ok,aC]
 unfold oB
 refine⟨fun h1=>⟨fun h2=>⟨fun h3=> ?_,fun h3=> ?_⟩,fun h2=> ?_⟩,fun h1=> ?_⟩
 · rw[if_neg (by simp at h1 h2 h3;simp[h1,h2,h3])];rfl
 · rw[if_pos (.inr (.inr (by simpa using h3)))];rfl
 · rw[if_pos (.inr (.inl (by simpa using h2)))];rfl
 · rw[if_pos (.inl (by simpa using h1))];rfl
theorem TT {l:List Fr} {a:Nat} {k:Nat} (h:(bt l)[a]? = some k) : ∃f,l[l.length-1-a]? = some f∧k=(if f.op=3 then 0 else f.res.toNat)∧a<l.length:=by
 have ha:a<l.length:=by
  obtain⟨h1,_⟩:=List.getElem?_eq_some_iff.1 h
  simpa[bt] using h1
 have hk:l.length-1-a<l.length:=by omega
 refine⟨l[l.length-1-a],cb hk,?_,ha⟩
 have hr:l.reverse[a]? = some l[l.length-1-a]:=by
  rw[List.getElem?_reverse ha,cb hk]
 rw[bt,List.getElem?_map,hr] at h
 simpa using h.symm
theorem Ks (g:oA R o t n) {a k:Nat} (h:(bt (o++[t]))[a]? = some k) :
  an acb env 157 [.agg [sI .i64 R.h,.ms 0 0 R.k 4 none],sI .i64 a] [dc R.cs] (.au [sI .i64 k,sI .i64 0]) [dc R.cs]:=by
 obtain⟨ex,hex⟩:=g.cs
 obtain⟨b1,b2,b3,b4,b5⟩:=g.GR
 have hl:(o++[t]).length=o.length+1:=by simp
 obtain⟨f,hf,hk,ha⟩:=TT h
 obtain⟨m1,m2,m3,m4⟩:=jh g.ok f (List.mem_of_getElem? hf)
 obtain⟨c0,c1,c2,c3⟩:=sv hf ex
 have hch:=EI R.h (o++[t]) ex g.ok
 have hlen:(aO (o++[t])++ex).length=(o.length+1)*4+ex.length:=by rw[di,ir,hl]
 rw[hl] at hch hf c0 c1 c2 c3 ha
 rw[hex,g.k]
 refine af aM (Ko R.h (o.length+1) (o.length+1-1-a) (aO (o++[t])++ex) a f.op f.base f.res f.dead) ?_
 have w1:sb.wrap (((o.length+1:Nat):Int)-1)=(o.length:Int):=by rw[aN (by omega) (by omega)];omega
 have w2:sb.wrap ((o.length:Int)-a)=((o.length+1-1-a:Nat):Int):=by rw[aN (by omega) (by omega)];omega
 have g1:decide ((a:Int)<0)=false:=by simp
 have g2:decide ((a:Int)≥((o.length+1:Nat):Int))=false:=by simp;omega
 simp only[ES,qA,bF,az.ok,aC,w1,w2,g1,g2,Int.toNat_natCast,Nat.zero_add,c0,c1,c2,c3,bh,iA,isInt,isBool,av,bD,ik,aW,List.length_map,hlen,
  pb,false_implies,true_implies,and_true,true_and,aeq,Bool.true_and,Nat.ble_eq,c8,decide_eq_true_eq]
 refine⟨hch,by omega,by omega,fun h3=> ?_,fun h3=> ?_⟩
 · rw[hk,if_pos (by simpa using h3)];rfl
 · rw[hk,if_neg (by simpa using h3),Int.toNat_of_nonneg m3]
theorem tX (g:oA R o t n) (a:Nat) (ha:a<4294967296) (q:Nat) :
  Ask X 130 [sI .u32 a,sI .i64 q] (sI .i64 ((bt (o++[t])).getD a 0:Nat)) R (oB R (decide (a<(o++[t]).length)) 6 q):=by
 have hl:(o++[t]).length=o.length+1:=by simp
 have Qc:(bt (o++[t])).length=o.length+1:=by simp[bt]
 obtain⟨b1,b2,b3,b4,b5⟩:=g.GR
 have hgk:=g.k
 by_cases h:a<o.length+1
 · have hs:(bt (o++[t]))[a]? = some ((bt (o++[t])).getD a 0):=by
    rw[ch,cb (by omega)];rfl
   refine af aM (Bs X.M X.tP X.tR X.own R.h R.k R.cs R.e R.p R.nx a q ((bt (o++[t])).getD a 0:Nat) 0) ?_
   have w1:ae6.wrap (a:Int)=a:=jw (by omega) (by omega)
   have w2:ae6.wrap (R.k:Int)=R.k:=jw (by omega) (by omega)
   have w3:sb.wrap (a:Int)=a:=aN (by omega) (by omega)
   have g1:decide ((a:Int)≥(R.k:Int))=false:=by simp;omega
   have hA:oB R (decide (a<(o++[t]).length)) 6 q=R:=by
    unfold oB;rw[if_pos (.inl (by simp;omega))]
   simp only[yS,mW,az.ok,aC,w1,w2,w3,g1,hA,pb,false_implies,true_implies,true_and]
   exact⟨Ks g hs,fun _=>rfl,fun _=>rfl⟩
 · refine af aM (Bs X.M X.tP X.tR X.own R.h R.k R.cs R.e R.p R.nx a q 0 0) ?_
   have w1:ae6.wrap (a:Int)=a:=jw (by omega) (by omega)
   have w2:ae6.wrap (R.k:Int)=R.k:=jw (by omega) (by omega)
   have g1:decide ((a:Int)≥(R.k:Int))=true:=by simp;omega
   have hz:(bt (o++[t])).getD a 0=0:=by rw[ch,List.getElem?_eq_none (by omega)];rfl
   have hd:decide (a<(o++[t]).length)=false:=by simp;omega
   simp only[yS,mW,az.ok,aC,w1,w2,g1,hz,hd,ae5,false_implies,true_implies,and_true]
   unfold oB
   refine⟨fun h2=> ?_,fun h2=> ?_⟩
   · rw[if_neg (by simp at h2;simp[h2])];rfl
   · rw[if_pos (.inr (.inl (by simpa using h2)))];rfl
end
end Go.Proofs.YtdmmllcjgjmbbaaGreatDoor.N
end
section
set_option linter.unusedSimpArgs false
namespace Go.Proofs.YtdmmllcjgjmbbaaGreatDoor.N
open Go Go.Am
section
variable {X:Lx} {R R1 R2 R3 R4 R5 R6 R7:Rw}
theorem Pe {P Q q:Int} (h1:cQ X 131 [sI .i64 P,sI .i64 q] R R1) (h2:cQ X 132 [sI .i64 Q,sI .i64 q] R1 R2):cQ X 135 [.agg [sI .i64 P,sI .i64 Q],sI .i64 q] R R2:=by
 refine af aM (O5 X R R1 R2 R R R R R P Q q) ?_
 simp only[IS,az.ok,aC]
 exact⟨h1,h2,trivial⟩
theorem Pf {op q tk tl:Int} {is:Bool} (h0:an acb env 177 [sI .i64 op] [] (.au [sI .i64 tk,sI .i64 tl,sB is]) []) (h1:cQ X 131 [sI .i64 tk,sI .i64 q] R R1) (h2:cQ X 132 [sI .i64 tl,sI .i64 q] R1 R2) :
  cQ X 163 [sI .i64 op,sI .i64 q] R R2:=by
 refine af aM (O6 X R R1 R2 R R R R R op q tk tl is) ?_
 simp only[IT,az.ok,aC]
 exact⟨h0,h1,h2,trivial⟩
variable {op r a b nn q:Int} {tg:List Int} {ll le:List Ins}
theorem Pg (h:cQ X 128 [sI .i64 q] R R1):cQ X 116 [dO 0 r a b nn tg ll le,sI .i64 q] R R1:=by
 refine af aM (ji X R R1 R R R R R R 0 r a b nn tg ll le q 0 0 0 true) ?_
 simp only[jJ,eT,eU,fC,az.ok,aC,afq,ph,pb,ae5,false_implies,true_implies,true_and,and_true]
 exact h
theorem pe (ho:op=2∨op=3∨op=4) (h:cQ X 129 [dO op r a b nn tg ll le,sI .i64 q] R R1):cQ X 116 [dO op r a b nn tg ll le,sI .i64 q] R R1:=by
 refine af aM (ji X R R1 R R R R R R op r a b nn tg ll le q 0 0 0 true) ?_
 rcases ho with rfl | rfl | rfl <;>
 · simp only[jJ,eT,eU,fC,az.ok,aC,afq,ph,pb,ae5,false_implies,true_implies,true_and,and_true]
   exact h
theorem Ph {v:Int} (h1:Ask X 130 [sI .u32 a,sI .i64 q] (sI .i64 v) R R1) (h2:cQ X 131 [sI .i64 v,sI .i64 q] R1 R2) (h3:cQ X 128 [sI .i64 q] R2 R3):cQ X 116 [dO 12 r a b nn tg ll le,sI .i64 q] R R3:=by
 refine af aM (ji X R R1 R2 R3 R R R R 12 r a b nn tg ll le q v 0 0 true) ?_
 simp only[jJ,eT,eU,fC,az.ok,aC,afq,ph,pb,ae5,false_implies,true_implies,true_and,and_true]
 exact⟨h1,h2,h3⟩
theorem EY {v:Int} (h1:Ask X 130 [sI .u32 a,sI .i64 q] (sI .i64 v) R R1) (h2:cQ X 131 [sI .i64 1,sI .i64 q] R1 R2) (h3:cQ X 131 [sI .i64 v,sI .i64 q] R2 R3) (h4:cQ X 132 [sI .i64 v,sI .i64 q] R3 R4):cQ X 116 [dO 13 r a b nn tg ll le,sI .i64 q] R R4:=by
 refine af aM (ji X R R1 R2 R3 R4 R R R 13 r a b nn tg ll le q v 0 0 true) ?_
 simp only[jJ,eT,eU,fC,az.ok,aC,afq,ph,pb,ae5,false_implies,true_implies,true_and,and_true]
 exact⟨h1,h2,h3,h4⟩
theorem Kt (h:cQ X 133 [dO 14 r a b nn tg ll le,sI .i64 q] R R1):cQ X 116 [dO 14 r a b nn tg ll le,sI .i64 q] R R1:=by
 refine af aM (ji X R R1 R R R R R R 14 r a b nn tg ll le q 0 0 0 true) ?_
 simp only[jJ,eT,eU,fC,az.ok,aC,afq,ph,pb,ae5,false_implies,true_implies,true_and,and_true]
 exact h
theorem SZ (h1:cQ X 131 [sI .i64 X.tR,sI .i64 q] R R1) (h2:cQ X 128 [sI .i64 q] R1 R2):cQ X 116 [dO 15 r a b nn tg ll le,sI .i64 q] R R2:=by
 refine af aM (ji X R R1 R2 R R R R R 15 r a b nn tg ll le q 0 0 0 true) ?_
 simp only[jJ,eT,eU,fC,az.ok,aC,afq,ph,pb,ae5,false_implies,true_implies,true_and,and_true]
 exact⟨h1,h2⟩
theorem EZ {P Q:Int} {is:Bool} (h0:an acb env 8 [.agg X.M.cells,sI .u32 a] [] (.au [.agg [sI .i64 P,sI .i64 Q],sB is]) []) (h1:Ask X 134 [sB is,sI .i64 6,sI .i64 q] (.au []) R R1) (h2:cQ X 135 [.agg [sI .i64 P,sI .i64 Q],sI .i64 q] R1 R2) :
  cQ X 116 [dO 16 r a b nn tg ll le,sI .i64 q] R R2:=by
 refine af aM (ji X R R R1 R2 R R R R 16 r a b nn tg ll le q 0 P Q is) ?_
 simp only[jJ,eT,eU,fC,az.ok,aC,afq,ph,pb,ae5,false_implies,true_implies,true_and,and_true]
 exact⟨h0,h1,h2⟩
theorem Ku (ho:op≠0∧op≠2∧op≠3∧op≠4∧op≠12∧op≠13∧op≠14∧op≠15∧op≠16∧op≠17) (h:cQ X 136 [dO op r a b nn tg ll le,sI .i64 q] R R1):cQ X 116 [dO op r a b nn tg ll le,sI .i64 q] R R1:=by
 refine af aM (ji X R R1 R R R R R R op r a b nn tg ll le q 0 0 0 true) ?_
 obtain⟨k0,k1,k2,k3,k4,k5,k6,k7,k8,k9⟩:=ho
 have e0:(op==0)=false:=by simpa using k0
 have e1:(op==2)=false:=by simpa using k1
 have e2:(op==3)=false:=by simpa using k2
 have e3:(op==4)=false:=by simpa using k3
 have e4:(op==12)=false:=by simpa using k4
 have e5:(op==13)=false:=by simpa using k5
 have e6:(op==14)=false:=by simpa using k6
 have e7:(op==15)=false:=by simpa using k7
 have e8:(op==16)=false:=by simpa using k8
 have e9:(op==17)=false:=by simpa using k9
 simp only[jJ,eT,eU,fC,az.ok,aC,e0,e1,e2,e3,e4,e5,e6,e7,e8,e9,ph,pb,ae5,false_implies,true_implies,true_and,and_true]
 exact h
theorem E0 {P Q:Int} (ht:0<X.M.sL) (hn:X.M.ny≤1000000000) (ha:0≤a∧a<4294967296) (hc:a<X.M.ny→X.M.tS.getD (a.toNat*2) .bw = .sc (.int .i64 P)∧X.M.tS.getD (a.toNat*2+1) .bw = .sc (.int .i64 Q))
  (h1:Ask X 134 [sB (decide (a<X.M.ny)),sI .i64 6,sI .i64 q] (.au []) R R1) (h2:cQ X 131 [sI .i64 1,sI .i64 q] R1 R2) (h3:a<X.M.ny→cQ X 135 [.agg [sI .i64 P,sI .i64 Q],sI .i64 q] R2 R3) (h4 : ¬a<X.M.ny→R3=R2) :
  cQ X 116 [dO 17 r a b nn tg ll le,sI .i64 q] R R3:=by
 refine an.gV (rows:=[(116,110,sB true),(116,140,.agg [sI .i64 P,sI .i64 Q])]) ?_
 refine af aM (O7 X R R1 R2 R3 R R R R 17 r a b nn tg ll le q 0 P Q true) ?_
 have w1:ae6.wrap a=a:=jw (by omega) (by omega)
 have w2:ae6.wrap (X.M.ny:Int)=X.M.ny:=jw (by omega) (by omega)
 have g1:decide ((X.M.sL:Int)>0)=true:=by simp;omega
 simp only[IU,bF,az.ok,aC,afq,ph,w1,w2,g1,dW,eL,aeq,true_and,and_true]
 refine⟨an.eG h1,an.eG h2,fun h=> ?_,fun h=> ?_⟩
 · have h:=of_decide_eq_true h
   obtain⟨c0,c1⟩:=hc h
   simp only[c0,c1,isInt,av,ik,ej,jS,zh,TY,BB,aW,decide_true,aeq,c8,decide_eq_true_eq]
   refine⟨?_,?_⟩
   · exact⟨by omega,by omega⟩
   · exact an.eG (h3 h)
 · have h:=of_decide_eq_false h
   rw[h4 h]
theorem Pj (ht:X.M.sL=0) (h1:Ask X 134 [sB false,sI .i64 6,sI .i64 q] (.au []) R R1) (h2:cQ X 131 [sI .i64 1,sI .i64 q] R1 R2) :
  cQ X 116 [dO 17 r a b nn tg ll le,sI .i64 q] R R2:=by
 refine an.gV (rows:=[(116,110,sB false)]) ?_
 refine af aM (O8 X R R1 R2 R R R R R 17 r a b nn tg ll le q 0 0 0 true) ?_
 have g1:decide ((X.M.sL:Int)>0)=false:=by simp;omega
 simp only[IV,az.ok,aC,afq,ph,g1,dW,eL,aeq,true_and,and_true]
 exact⟨an.eG h1,an.eG h2⟩
theorem XJ (ho:op≠4) (h1:cQ X 156 [sI .i64 op,sI .i64 r,sI .i64 q] R R1) (h2:cQ X 84 [aL ll] R1 R2) (h3:cQ X 85 [sI .i64 q] R2 R3):cQ X 129 [dO op r a b nn tg ll le,sI .i64 q] R R3:=by
 refine af aM (O9 X R R1 R2 R3 R R R R op r a b nn tg ll le q) ?_
 have e0:(op != 4)=true:=by simpa using ho
 simp only[IW,az.ok,aC,e0,true_and,and_true]
 exact⟨h1,h2,h3⟩
theorem XK (hE:R4.e≠0) (h1:cQ X 131 [sI .i64 1,sI .i64 q] R R1) (h2:cQ X 156 [sI .i64 4,sI .i64 r,sI .i64 q] R1 R2) (h3:cQ X 84 [aL ll] R2 R3) (h4:cQ X 85 [sI .i64 q] R3 R4):cQ X 129 [dO 4 r a b nn tg ll le,sI .i64 q] R R4:=by
 refine af aM (Pa X R R1 R2 R3 R4 R R R r a b nn tg ll le q) ?_
 have e0:(R4.e != 0)=true:=by simpa using hE
 simp only[IX,az.ok,aC,e0,true_and,and_true,true_implies,ae5,false_implies]
 exact⟨h1,h2,h3,h4⟩
theorem Pk (h1:cQ X 131 [sI .i64 1,sI .i64 q] R R1)
  (h2:an acb env 156 [.mp 0 0,sI .i64 4,sI .i64 r,sI .i64 q] (eK X R1) (.au []) [aV X.M X.tP X.tR X.own R2.h 2 R2.k R2.e R2.p R2.nx,dc R1.cs,dc R2.cs]) (h3:cQ X 84 [aL ll] R2 R3) (h4:cQ X 85 [sI .i64 q] R3 R4)
  (hE:R4.e≠0→R7=R4) (h5:R4.e=0→cQ X 156 [sI .i64 5,sI .i64 r,sI .i64 q] ⟨R1.h,R1.k,R1.cs,R4.e,R4.p,R4.nx⟩ R5) (h6:R4.e=0→cQ X 84 [aL le] R5 R6) (h7:R4.e=0→cQ X 85 [sI .i64 q] R6 R7) :
  cQ X 129 [dO 4 r a b nn tg ll le,sI .i64 q] R R7:=by
 refine af aM (Pb X R R1 R2 R3 R4 R5 R6 R7 r a b nn tg ll le q) ?_
 simp only[IY,az.ok,aC]
 refine⟨h1,h2,h3,h4,fun h=> ?_,fun h=> ?_⟩
 · rw[hE (by simpa using h)]
 · have h:R4.e=0:=by simpa using h
   exact⟨h5 h,h6 h,h7 h,trivial⟩
end
end Go.Proofs.YtdmmllcjgjmbbaaGreatDoor.N
end
