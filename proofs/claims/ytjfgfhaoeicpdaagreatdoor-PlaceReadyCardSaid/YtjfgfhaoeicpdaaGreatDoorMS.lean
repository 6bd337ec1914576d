import Derived.Test.YtjfgfhaoeicpdaaGreatDoorMR
import Derived.Test.YtjfgfhaoeicpdaaGreatDoorMH
open Nat renaming beq→ae
open List renaming map→abG,getElem?_eq_getElem→bm,getD_eq_getElem?_getD→cb,length_append→de
open Go.Proofs.Tryz renaming prog→ab5
open Go.IntKind renaming u64→afo,i64→rn,u32→abb
open Int renaming reduceBEq→afW,le_refl→af7
open Bool renaming false_eq_true→oE,true_eq_false→afn,not_false→oR,and_true→aeU,and_eq_true→ch
noncomputable section
section
set_option linter.unusedVariables false
namespace Go.Proofs.YtjfgfhaoeicpdaaGreatDoor.N
open Go Go.Am
def adS (f:FuncId):Bool:=ae f 117||(ae f 118||(ae f 114||(ae f 91||(ae f 131||(ae f 121||(ae f 137||(ae f 90||(ae f 106||(ae f 115||(ae f 119||ae f 122))))))))))
def nth (X:Lx) (R R1 R2 R3 R4 R5 R6 R7:Rw) (i:Nat):Rw:=match i with
 |0=>R1
 |1=>R2
 |2=>R3
 |3=>R4
 |4=>R5
 |5=>R6
 |_=>R7
def sq (X:Lx) (R R1 R2 R3 R4 R5 R6 R7:Rw) (i:Nat) (f:FuncId) (_:List AV) (_:Mem):Option (AV×Mem):=cond (adS f) (some (.aA [],kU X (nth X R R1 R2 R3 R4 R5 R6 R7 i))) (cond (ae f 120) (some (.aA [],eK X (nth X R R1 R2 R3 R4 R5 R6 R7 i))) none)
def ahs (X:Lx) (R R1 R2 R3 R4 R5 R6 R7:Rw) (op q tk tl:Int) (is:Bool) (f:FuncId) (_:List AV) (m:Mem):Option (AV×Mem):=cond (ae f 147) (some (.aA [sI .i64 tk,sI .i64 tl,sB is],m)) none
def aht (X:Lx) (R R1 R2 R3 R4 R5 R6 R7:Rw) (op r a b nn:Int) (tg:List Int) (ll le:List Ins) (q al:Int) (st mu:Bool) (f:FuncId) (_:List AV) (m:Mem):Option (AV×Mem):=cond (ae f 127) (some (.aA [sI .u32 al,sB st],m)) none
def ahu (X:Lx) (R R1 R2 R3 R4 R5 R6 R7:Rw) (op r a b nn:Int) (tg:List Int) (ll le:List Ins) (q al:Int) (st mu:Bool):Env:=va [(122,53,sB mu)]
def adT (X:Lx) (R R1 R2 R3 R4 R5 R6 R7:Rw) (op r a b nn:Int) (tg:List Int) (ll le:List Ins) (q v P Q:Int) (is:Bool) (i:Nat) (f:FuncId) (l:List AV) (m:Mem):Option (AV×Mem):=cond (ae f 116) (some (sI .i64 v,eK X (nth X R R1 R2 R3 R4 R5 R6 R7 i))) (cond (ae f 42) (some (.aA [.agg [sI .i64 P,sI .i64 Q],sB is],m)) (sq X R R1 R2 R3 R4 R5 R6 R7 i f l m))
def ahv (X:Lx) (R R1 R2 R3 R4 R5 R6 R7:Rw) (op r a b nn:Int) (tg:List Int) (ll le:List Ins) (q v P Q:Int) (is:Bool):Nat→FuncId→List AV→Mem→Option (AV×Mem):=adT X R R1 R2 R3 R4 R5 R6 R7 op r a b nn tg ll le q v P Q is
def ahw (X:Lx) (R R1 R2 R3 R4 R5 R6 R7:Rw) (op r a b nn:Int) (tg:List Int) (ll le:List Ins) (q v P Q:Int) (is:Bool):Env:=va [(106,110,sB true),(106,140,.agg [sI .i64 P,sI .i64 Q])]
def ahx (X:Lx) (R R1 R2 R3 R4 R5 R6 R7:Rw) (op r a b nn:Int) (tg:List Int) (ll le:List Ins) (q v P Q:Int) (is:Bool):Env:=va [(106,110,sB false)]
def Z0:bD:=aQ aI av [] [] []
def adU (X:Lx) (R:Rw) (R1:Rw) (R2:Rw) (R3:Rw) (R4:Rw) (R5:Rw) (R6:Rw) (R7:Rw) (P Q q:Int):Sc:=(.ans 117 (.aA []) ([bf X.M X.tP X.tR X.own R1.h 2 R1.k R1.e R1.p R1.nx,.dead,.ob (aG.gr 185 true) (abG AV.p R1.cs)]) (.ans 118 (.aA []) ([bf X.M X.tP X.tR X.own R2.h 2 R2.k R2.e R2.p R2.nx,.dead,.ob (aG.gr 185 true) (abG AV.p R2.cs)]) .fin))
def Jw (X:Lx) (R:Rw) (R1:Rw) (R2:Rw) (R3:Rw) (R4:Rw) (R5:Rw) (R6:Rw) (R7:Rw) (P Q q:Int):aC:=
 (.call ⟨117,[.mp 0 0,sI .i64 P,sI .i64 q],[bf X.M X.tP X.tR X.own R.h 1 R.k R.e R.p R.nx,.ob (aG.gr 185 true) (abG aa (abG AV.p R.cs))],.aA [],[bf X.M X.tP X.tR X.own R1.h 2 R1.k R1.e R1.p R1.nx,.dead,.ob (aG.gr 185 true) (abG AV.p R1.cs)]⟩
 (.call ⟨118,[.mp 0 0,sI .i64 Q,sI .i64 q],[bf X.M X.tP X.tR X.own R1.h 1 R1.k R1.e R1.p R1.nx,.ob (aG.gr 185 true) (abG aa (abG aa (abG AV.p R1.cs)))],.aA [],[bf X.M X.tP X.tR X.own R2.h 2 R2.k R2.e R2.p R2.nx,.dead,.ob (aG.gr 185 true) (abG AV.p R2.cs)]⟩
 (.out (.ret (.aA []) [bf X.M X.tP X.tR X.own R2.h 2 R2.k R2.e R2.p R2.nx,.dead,.ob (aG.gr 185 true) (abG aa (abG aa (abG AV.p R2.cs)))]))))
theorem QY (X:Lx) (R:Rw) (R1:Rw) (R2:Rw) (R3:Rw) (R4:Rw) (R5:Rw) (R6:Rw) (R7:Rw) (P Q q:Int):aH ab5 env Z0 1000000 121 ([AV.mp 0 0,AV.agg [sI rn P,sI rn Q],sI rn q]) (eK X R) (adU X R R1 R2 R3 R4 R5 R6 R7 P Q q)=Jw X R R1 R2 R3 R4 R5 R6 R7 P Q q:=by kernel_rfl
def Z1 (X:Lx) (R:Rw) (R1:Rw) (R2:Rw) (R3:Rw) (R4:Rw) (R5:Rw) (R6:Rw) (R7:Rw) (op q tk tl:Int) (is:Bool):bD:=aQ (ahs X R R1 R2 R3 R4 R5 R6 R7 op q tk tl is) av [] [] []
def adV (X:Lx) (R:Rw) (R1:Rw) (R2:Rw) (R3:Rw) (R4:Rw) (R5:Rw) (R6:Rw) (R7:Rw) (op q tk tl:Int) (is:Bool):Sc:=(.ans 117 (.aA []) ([bf X.M X.tP X.tR X.own R1.h 2 R1.k R1.e R1.p R1.nx,.dead,.ob (aG.gr 185 true) (abG AV.p R1.cs)]) (.ans 118 (.aA []) ([bf X.M X.tP X.tR X.own R2.h 2 R2.k R2.e R2.p R2.nx,.dead,.ob (aG.gr 185 true) (abG AV.p R2.cs)]) .fin))
def Jx (X:Lx) (R:Rw) (R1:Rw) (R2:Rw) (R3:Rw) (R4:Rw) (R5:Rw) (R6:Rw) (R7:Rw) (op q tk tl:Int) (is:Bool):aC:=
 (.call ⟨147,[sI .i64 op],[],.aA [sI .i64 tk,sI .i64 tl,.p (.sc (.bool is))],[]⟩
 (.call ⟨117,[.mp 0 0,sI .i64 tk,sI .i64 q],[bf X.M X.tP X.tR X.own R.h 1 R.k R.e R.p R.nx,.ob (aG.gr 185 true) (abG aa (abG AV.p R.cs))],.aA [],[bf X.M X.tP X.tR X.own R1.h 2 R1.k R1.e R1.p R1.nx,.dead,.ob (aG.gr 185 true) (abG AV.p R1.cs)]⟩
 (.call ⟨118,[.mp 0 0,sI .i64 tl,sI .i64 q],[bf X.M X.tP X.tR X.own R1.h 1 R1.k R1.e R1.p R1.nx,.ob (aG.gr 185 true) (abG aa (abG aa (abG AV.p R1.cs)))],.aA [],[bf X.M X.tP X.tR X.own R2.h 2 R2.k R2.e R2.p R2.nx,.dead,.ob (aG.gr 185 true) (abG AV.p R2.cs)]⟩
 (.out (.ret (.aA []) [bf X.M X.tP X.tR X.own R2.h 2 R2.k R2.e R2.p R2.nx,.dead,.ob (aG.gr 185 true) (abG aa (abG aa (abG AV.p R2.cs)))])))))
theorem QZ (X:Lx) (R:Rw) (R1:Rw) (R2:Rw) (R3:Rw) (R4:Rw) (R5:Rw) (R6:Rw) (R7:Rw) (op q tk tl:Int) (is:Bool):aH ab5 env (Z1 X R R1 R2 R3 R4 R5 R6 R7 op q tk tl is) 1000000 137 ([AV.mp 0 0,sI rn op,sI rn q]) (eK X R) (adV X R R1 R2 R3 R4 R5 R6 R7 op q tk tl is)=Jx X R R1 R2 R3 R4 R5 R6 R7 op q tk tl is:=by kernel_rfl
def Z2 (X:Lx) (R:Rw) (R1:Rw) (R2:Rw) (R3:Rw) (R4:Rw) (R5:Rw) (R6:Rw) (R7:Rw) (op r a b nn:Int) (tg:List Int) (ll:List Ins) (le:List Ins) (q al:Int) (st:Bool) (mu:Bool):bD:=aQ (aht X R R1 R2 R3 R4 R5 R6 R7 op r a b nn tg ll le q al st mu) av [] [(122,0,0),(122,0,2),(122,0,1),(122,0,3),(122,0,7),(122,0,4),(122,0,5),(122,0,6),(122,0,8)] [(122,0,8)]
def adW (X:Lx) (R:Rw) (R1:Rw) (R2:Rw) (R3:Rw) (R4:Rw) (R5:Rw) (R6:Rw) (R7:Rw) (op r a b nn:Int) (tg:List Int) (ll:List Ins) (le:List Ins) (q al:Int) (st:Bool) (mu:Bool):Sc:=(.fork (.yes (.ans 120 (.aA []) ([bf X.M X.tP X.tR X.own R1.h 1 R1.k R1.e R1.p R1.nx,.ob (aG.gr 185 true) (abG AV.p R1.cs)]) (.ans 137 (.aA []) ([bf X.M X.tP X.tR X.own R2.h 2 R2.k R2.e R2.p R2.nx,.dead,.ob (aG.gr 185 true) (abG AV.p R2.cs)]) .fin))) (.fork (.yes (.ans 120 (.aA []) ([bf X.M X.tP X.tR X.own R1.h 1 R1.k R1.e R1.p R1.nx,.ob (aG.gr 185 true) (abG AV.p R1.cs)]) (.ans 137 (.aA []) ([bf X.M X.tP X.tR X.own R2.h 2 R2.k R2.e R2.p R2.nx,.dead,.ob (aG.gr 185 true) (abG AV.p R2.cs)]) .fin))) (.fork (.ans 120 (.aA []) ([bf X.M X.tP X.tR X.own R1.h 1 R1.k R1.e R1.p R1.nx,.ob (aG.gr 185 true) (abG AV.p R1.cs)]) (.ans 137 (.aA []) ([bf X.M X.tP X.tR X.own R2.h 2 R2.k R2.e R2.p R2.nx,.dead,.ob (aG.gr 185 true) (abG AV.p R2.cs)]) .fin)) (.fork (.fork (.ans 120 (.aA []) ([bf X.M X.tP X.tR X.own R1.h 1 R1.k R1.e R1.p R1.nx,.ob (aG.gr 185 true) (abG AV.p R1.cs)]) (.ans 120 (.aA []) ([bf X.M X.tP X.tR X.own R2.h 1 R2.k R2.e R2.p R2.nx,.ob (aG.gr 185 true) (abG AV.p R2.cs)]) (.ans 137 (.aA []) ([bf X.M X.tP X.tR X.own R3.h 2 R3.k R3.e R3.p R3.nx,.dead,.ob (aG.gr 185 true) (abG AV.p R3.cs)]) .fin))) (.ans 120 (.aA []) ([bf X.M X.tP X.tR X.own R1.h 1 R1.k R1.e R1.p R1.nx,.ob (aG.gr 185 true) (abG AV.p R1.cs)]) (.ans 137 (.aA []) ([bf X.M X.tP X.tR X.own R2.h 2 R2.k R2.e R2.p R2.nx,.dead,.ob (aG.gr 185 true) (abG AV.p R2.cs)]) .fin))) (.fork (.ans 120 (.aA []) ([bf X.M X.tP X.tR X.own R1.h 1 R1.k R1.e R1.p R1.nx,.ob (aG.gr 185 true) (abG AV.p R1.cs)]) (.ans 137 (.aA []) ([bf X.M X.tP X.tR X.own R2.h 2 R2.k R2.e R2.p R2.nx,.dead,.ob (aG.gr 185 true) (abG AV.p R2.cs)]) .fin)) (.fork (.yes (.ans 120 (.aA []) ([bf X.M X.tP X.tR X.own R1.h 1 R1.k R1.e R1.p R1.nx,.ob (aG.gr 185 true) (abG AV.p R1.cs)]) (.ans 137 (.aA []) ([bf X.M X.tP X.tR X.own R2.h 2 R2.k R2.e R2.p R2.nx,.dead,.ob (aG.gr 185 true) (abG AV.p R2.cs)]) .fin))) (.fork (.ans 120 (.aA []) ([bf X.M X.tP X.tR X.own R1.h 1 R1.k R1.e R1.p R1.nx,.ob (aG.gr 185 true) (abG AV.p R1.cs)]) (.ans 137 (.aA []) ([bf X.M X.tP X.tR X.own R2.h 2 R2.k R2.e R2.p R2.nx,.dead,.ob (aG.gr 185 true) (abG AV.p R2.cs)]) .fin)) (.fork (.ans 120 (.aA []) ([bf X.M X.tP X.tR X.own R1.h 1 R1.k R1.e R1.p R1.nx,.ob (aG.gr 185 true) (abG AV.p R1.cs)]) (.ans 120 (.aA []) ([bf X.M X.tP X.tR X.own R2.h 1 R2.k R2.e R2.p R2.nx,.ob (aG.gr 185 true) (abG AV.p R2.cs)]) (.ans 137 (.aA []) ([bf X.M X.tP X.tR X.own R3.h 2 R3.k R3.e R3.p R3.nx,.dead,.ob (aG.gr 185 true) (abG AV.p R3.cs)]) .fin))) (.ans 137 (.aA []) ([bf X.M X.tP X.tR X.own R1.h 2 R1.k R1.e R1.p R1.nx,.dead,.ob (aG.gr 185 true) (abG AV.p R1.cs)]) .fin)))))))))
def ff (X:Lx) (R1:Rw) (R2:Rw) (op:Int) (q:Int):aC:=
 (.call ⟨137,[.mp 0 0,sI .i64 op,sI .i64 q],[bf X.M X.tP X.tR X.own R1.h 1 R1.k R1.e R1.p R1.nx,.ob (aG.gr 185 true) (abG aa (abG aa (abG AV.p R1.cs)))],.aA [],[bf X.M X.tP X.tR X.own R2.h 2 R2.k R2.e R2.p R2.nx,.dead,.ob (aG.gr 185 true) (abG AV.p R2.cs)]⟩ (.out (.ret (.aA []) [bf X.M X.tP X.tR X.own R2.h 2 R2.k R2.e R2.p R2.nx,.dead,.ob (aG.gr 185 true) (abG aa (abG aa (abG AV.p R2.cs)))])))
def fj (X:Lx) (R:Rw) (R1:Rw) (R2:Rw) (op a:Int) (q:Int):aC:=
 (.call ⟨120,[.mp 0 0,.p (.sc (.bool (decide (afo.wrap a<X.own)))),sI .i64 6,sI .i64 q],[bf X.M X.tP X.tR X.own R.h 1 R.k R.e R.p R.nx,.ob (aG.gr 185 true) (abG aa (abG AV.p R.cs))],.aA [],[bf X.M X.tP X.tR X.own R1.h 1 R1.k R1.e R1.p R1.nx,.ob (aG.gr 185 true) (abG AV.p R1.cs)]⟩ (ff X R1 R2 op q))
def fQ (X:Lx) (R2:Rw) (R3:Rw) (op:Int) (q:Int):aC:=
 (.call ⟨137,[.mp 0 0,sI .i64 op,sI .i64 q],[bf X.M X.tP X.tR X.own R2.h 1 R2.k R2.e R2.p R2.nx,.ob (aG.gr 185 true) (abG aa (abG aa (abG AV.p R2.cs)))],.aA [],[bf X.M X.tP X.tR X.own R3.h 2 R3.k R3.e R3.p R3.nx,.dead,.ob (aG.gr 185 true) (abG AV.p R3.cs)]⟩ (.out (.ret (.aA []) [bf X.M X.tP X.tR X.own R3.h 2 R3.k R3.e R3.p R3.nx,.dead,.ob (aG.gr 185 true) (abG aa (abG aa (abG AV.p R3.cs)))])))
def fR (X:Lx) (R:Rw) (R1:Rw) (R2:Rw) (op a:Int) (q:Int):aC:=
 (.must true (.call ⟨120,[.mp 0 0,.p (.sc (.bool (decide (afo.wrap a<afo.wrap (↑X.M.jB:Int))))),sI .i64 6,sI .i64 q],[bf X.M X.tP X.tR X.own R.h 1 R.k R.e R.p R.nx,.ob (aG.gr 185 true) (abG aa (abG AV.p R.cs))],.aA [],[bf X.M X.tP X.tR X.own R1.h 1 R1.k R1.e R1.p R1.nx,.ob (aG.gr 185 true) (abG AV.p R1.cs)]⟩ (ff X R1 R2 op q)))
def fS (X:Lx) (R:Rw) (R1:Rw) (R2:Rw) (op:Int) (q:Int):aC:=
 (.call ⟨120,[.mp 0 0,.p (.sc (.bool (decide ((↑X.M.tN:Int)>0)))),sI .i64 6,sI .i64 q],[bf X.M X.tP X.tR X.own R.h 1 R.k R.e R.p R.nx,.ob (aG.gr 185 true) (abG aa (abG AV.p R.cs))],.aA [],[bf X.M X.tP X.tR X.own R1.h 1 R1.k R1.e R1.p R1.nx,.ob (aG.gr 185 true) (abG AV.p R1.cs)]⟩ (ff X R1 R2 op q))
def kJ (X:Lx) (R:Rw) (R1:Rw) (R2:Rw) (R3:Rw) (R4:Rw) (R5:Rw) (R6:Rw) (R7:Rw) (op r a b nn:Int) (tg:List Int) (ll:List Ins) (le:List Ins) (q al:Int) (st:Bool) (mu:Bool):aC:=
 (.test (op==32)
 (.must (op==32)
 (fj X R R1 R2 op a q))
 (.test (op==33)
 (.must (op==33)
 (fj X R R1 R2 op a q))
 (.test (op==34)
 (fj X R R1 R2 op a q)
 (.test (op==36)
 (.test (decide (afo.wrap a<afo.wrap (↑X.M.jB:Int)))
 (.must (bp a X.M.jB&&true&&true&&(isBool (aB X.M.yY (a.toNat*2+0))&&true&&dy (.p (.sc (.bool (bu (aB X.M.yY (a.toNat*2+0)))))) (.p (.sc (.bool mu)))&&true)&&true)
 (.call ⟨120,[.mp 0 0,.p (.sc (.bool mu)),sI .i64 212,sI .i64 q],[bf X.M X.tP X.tR X.own R.h 1 R.k R.e R.p R.nx,.ob (aG.gr 185 true) (abG aa (abG AV.p R.cs))],.aA [],[bf X.M X.tP X.tR X.own R1.h 1 R1.k R1.e R1.p R1.nx,.ob (aG.gr 185 true) (abG AV.p R1.cs)]⟩
 (.must true
 (.call ⟨120,[.mp 0 0,.p (.sc (.bool (decide (afo.wrap a<afo.wrap (↑X.M.jB:Int))))),sI .i64 6,sI .i64 q],[bf X.M X.tP X.tR X.own R1.h 1 R1.k R1.e R1.p R1.nx,.ob (aG.gr 185 true) (abG aa (abG aa (abG AV.p R1.cs)))],.aA [],[bf X.M X.tP X.tR X.own R2.h 1 R2.k R2.e R2.p R2.nx,.ob (aG.gr 185 true) (abG AV.p R2.cs)]⟩
 (fQ X R2 R3 op q)))))
 (fR X R R1 R2 op a q))
 (.test (op==35)
 (fR X R R1 R2 op a q)
 (.test (op==63)
 (.must (op==63)
 (fS X R R1 R2 op q))
 (.test (op==64)
 (fS X R R1 R2 op q)
 (.call ⟨127,[sI .i64 op],[],.aA [sI .u32 al,.p (.sc (.bool st))],[]⟩
 (.test (st)
 (.call ⟨120,[.mp 0 0,.p (.sc (.bool (decide ((↑X.M.tN:Int)>0)))),sI .i64 6,sI .i64 q],[bf X.M X.tP X.tR X.own R.h 1 R.k R.e R.p R.nx,.ob (aG.gr 185 true) (abG aa (abG AV.p R.cs))],.aA [],[bf X.M X.tP X.tR X.own R1.h 1 R1.k R1.e R1.p R1.nx,.ob (aG.gr 185 true) (abG AV.p R1.cs)]⟩
 (.call ⟨120,[.mp 0 0,.p (.sc (.bool (decide (a≤al)))),sI .i64 211,sI .i64 q],[bf X.M X.tP X.tR X.own R1.h 1 R1.k R1.e R1.p R1.nx,.ob (aG.gr 185 true) (abG aa (abG aa (abG AV.p R1.cs)))],.aA [],[bf X.M X.tP X.tR X.own R2.h 1 R2.k R2.e R2.p R2.nx,.ob (aG.gr 185 true) (abG AV.p R2.cs)]⟩
 (fQ X R2 R3 op q)))
 (.call ⟨137,[.mp 0 0,sI .i64 op,sI .i64 q],[bf X.M X.tP X.tR X.own R.h 1 R.k R.e R.p R.nx,.ob (aG.gr 185 true) (abG aa (abG AV.p R.cs))],.aA [],[bf X.M X.tP X.tR X.own R1.h 2 R1.k R1.e R1.p R1.nx,.dead,.ob (aG.gr 185 true) (abG AV.p R1.cs)]⟩
 (.out (.ret (.aA []) [bf X.M X.tP X.tR X.own R1.h 2 R1.k R1.e R1.p R1.nx,.dead,.ob (aG.gr 185 true) (abG aa (abG aa (abG AV.p R1.cs)))]))))))))))))
theorem jZ (X:Lx) (R:Rw) (R1:Rw) (R2:Rw) (R3:Rw) (R4:Rw) (R5:Rw) (R6:Rw) (R7:Rw) (op r a b nn:Int) (tg:List Int) (ll:List Ins) (le:List Ins) (q al:Int) (st:Bool) (mu:Bool):aH ab5 (ahu X R R1 R2 R3 R4 R5 R6 R7 op r a b nn tg ll le q al st mu) (Z2 X R R1 R2 R3 R4 R5 R6 R7 op r a b nn tg ll le q al st mu) 1000000 122 ([AV.mp 0 0,dR op r a b nn tg ll le,sI rn q]) (eK X R) (adW X R R1 R2 R3 R4 R5 R6 R7 op r a b nn tg ll le q al st mu)=kJ X R R1 R2 R3 R4 R5 R6 R7 op r a b nn tg ll le q al st mu:=by kernel_rfl
def Z3:bD:=aQ aI av [] [(106,0,0),(106,0,1),(106,0,3),(106,0,2),(106,0,4),(106,0,5),(106,0,6),(106,0,7),(106,0,8),(106,0,9)] []
def adX (X:Lx) (R:Rw) (R1:Rw) (R2:Rw) (R3:Rw) (R4:Rw) (R5:Rw) (R6:Rw) (R7:Rw) (op r a b nn:Int) (tg:List Int) (ll:List Ins) (le:List Ins) (q v P Q:Int) (is:Bool):Sc:=(.fork (.ans 114 (.aA []) ([bf X.M X.tP X.tR X.own R1.h 2 R1.k R1.e R1.p R1.nx,.dead,.ob (aG.gr 185 true) (abG AV.p R1.cs)]) .fin) (.fork (.yes (.ans 115 (.aA []) ([bf X.M X.tP X.tR X.own R1.h 2 R1.k R1.e R1.p R1.nx,.dead,.ob (aG.gr 185 true) (abG AV.p R1.cs)]) .fin)) (.fork (.yes (.ans 115 (.aA []) ([bf X.M X.tP X.tR X.own R1.h 2 R1.k R1.e R1.p R1.nx,.dead,.ob (aG.gr 185 true) (abG AV.p R1.cs)]) .fin)) (.fork (.ans 115 (.aA []) ([bf X.M X.tP X.tR X.own R1.h 2 R1.k R1.e R1.p R1.nx,.dead,.ob (aG.gr 185 true) (abG AV.p R1.cs)]) .fin) (.fork (.ans 116 (sI .i64 v) ([bf X.M X.tP X.tR X.own R1.h 1 R1.k R1.e R1.p R1.nx,.ob (aG.gr 185 true) (abG AV.p R1.cs)]) (.ans 117 (.aA []) ([bf X.M X.tP X.tR X.own R2.h 2 R2.k R2.e R2.p R2.nx,.dead,.ob (aG.gr 185 true) (abG AV.p R2.cs)]) (.ans 114 (.aA []) ([bf X.M X.tP X.tR X.own R3.h 2 R3.k R3.e R3.p R3.nx,.dead,.ob (aG.gr 185 true) (abG AV.p R3.cs)]) .fin))) (.fork (.ans 116 (sI .i64 v) ([bf X.M X.tP X.tR X.own R1.h 1 R1.k R1.e R1.p R1.nx,.ob (aG.gr 185 true) (abG AV.p R1.cs)]) (.ans 117 (.aA []) ([bf X.M X.tP X.tR X.own R2.h 2 R2.k R2.e R2.p R2.nx,.dead,.ob (aG.gr 185 true) (abG AV.p R2.cs)]) (.ans 117 (.aA []) ([bf X.M X.tP X.tR X.own R3.h 2 R3.k R3.e R3.p R3.nx,.dead,.ob (aG.gr 185 true) (abG AV.p R3.cs)]) (.ans 118 (.aA []) ([bf X.M X.tP X.tR X.own R4.h 2 R4.k R4.e R4.p R4.nx,.dead,.ob (aG.gr 185 true) (abG AV.p R4.cs)]) .fin)))) (.fork (.ans 119 (.aA []) ([bf X.M X.tP X.tR X.own R1.h 2 R1.k R1.e R1.p R1.nx,.dead,.ob (aG.gr 185 true) (abG AV.p R1.cs)]) .fin) (.fork (.ans 117 (.aA []) ([bf X.M X.tP X.tR X.own R1.h 2 R1.k R1.e R1.p R1.nx,.dead,.ob (aG.gr 185 true) (abG AV.p R1.cs)]) (.ans 114 (.aA []) ([bf X.M X.tP X.tR X.own R2.h 2 R2.k R2.e R2.p R2.nx,.dead,.ob (aG.gr 185 true) (abG AV.p R2.cs)]) .fin)) (.fork (.vP 106 24 (ahv X R R1 R2 R3 R4 R5 R6 R7 op r a b nn tg ll le q v P Q is 0) (.ans 120 (.aA []) ([bf X.M X.tP X.tR X.own R2.h 1 R2.k R2.e R2.p R2.nx,.ob (aG.gr 185 true) (abG AV.p R2.cs)]) (.ans 121 (.aA []) ([bf X.M X.tP X.tR X.own R3.h 2 R3.k R3.e R3.p R3.nx,.dead,.ob (aG.gr 185 true) (abG AV.p R3.cs)]) .fin))) (.no (.ans 122 (.aA []) ([bf X.M X.tP X.tR X.own R1.h 2 R1.k R1.e R1.p R1.nx,.dead,.ob (aG.gr 185 true) (abG AV.p R1.cs)]) .fin)))))))))))
def eO (X:Lx) (R:Rw) (R1:Rw) (op r a b nn:Int) (tg:List Int) (ll:List Ins) (le:List Ins) (q:Int):aC:=
 (.call ⟨115,[.mp 0 0,.agg [sI .i64 op,sI .i64 r,sI .u32 a,sI .u32 b,sI .i32 nn,.p (.ps tg.length 1 (dw abb tg)),.p (.ps ll.length 8 (aq ll)),.p (.ps le.length 8 (aq le))],sI .i64 q],[bf X.M X.tP X.tR X.own R.h 1 R.k R.e R.p R.nx,.ob (aG.gr 185 true) (abG aa (abG AV.p R.cs))],.aA [],[bf X.M X.tP X.tR X.own R1.h 2 R1.k R1.e R1.p R1.nx,.dead,.ob (aG.gr 185 true) (abG AV.p R1.cs)]⟩ (.out (.ret (.aA []) [bf X.M X.tP X.tR X.own R1.h 2 R1.k R1.e R1.p R1.nx,.dead,.ob (aG.gr 185 true) (abG aa (abG aa (abG AV.p R1.cs)))])))
def eP (X:Lx) (R1:Rw):aC:=
 (.out (.ret (.aA []) [bf X.M X.tP X.tR X.own R1.h 2 R1.k R1.e R1.p R1.nx,.dead,.ob (aG.gr 185 true) (abG aa (abG aa (abG AV.p R1.cs)))]))
def fk (X:Lx) (R3:Rw):aC:=
 (.out (.ret (.aA []) [bf X.M X.tP X.tR X.own R3.h 2 R3.k R3.e R3.p R3.nx,.dead,.ob (aG.gr 185 true) (abG aa (abG aa (abG AV.p R3.cs)))]))
def jv (X:Lx) (R:Rw) (R1:Rw) (R2:Rw) (R3:Rw) (R4:Rw) (R5:Rw) (R6:Rw) (R7:Rw) (op r a b nn:Int) (tg:List Int) (ll:List Ins) (le:List Ins) (q v P Q:Int) (is:Bool):aC:=
 (.test (op==0)
 (.call ⟨114,[.mp 0 0,sI .i64 q],[bf X.M X.tP X.tR X.own R.h 1 R.k R.e R.p R.nx,.ob (aG.gr 185 true) (abG aa (abG AV.p R.cs))],.aA [],[bf X.M X.tP X.tR X.own R1.h 2 R1.k R1.e R1.p R1.nx,.dead,.ob (aG.gr 185 true) (abG AV.p R1.cs)]⟩
 (eP X R1))
 (.test (op==2)
 (.must (op==2)
 (eO X R R1 op r a b nn tg ll le q))
 (.test (op==3)
 (.must (op==3)
 (eO X R R1 op r a b nn tg ll le q))
 (.test (op==4)
 (eO X R R1 op r a b nn tg ll le q)
 (.test (op==12)
 (.call ⟨116,[.mp 0 0,sI .u32 a,sI .i64 q],[bf X.M X.tP X.tR X.own R.h 1 R.k R.e R.p R.nx,.ob (aG.gr 185 true) (abG aa (abG AV.p R.cs))],sI .i64 v,[bf X.M X.tP X.tR X.own R1.h 1 R1.k R1.e R1.p R1.nx,.ob (aG.gr 185 true) (abG AV.p R1.cs)]⟩
 (.call ⟨117,[.mp 0 0,sI .i64 v,sI .i64 q],[bf X.M X.tP X.tR X.own R1.h 1 R1.k R1.e R1.p R1.nx,.ob (aG.gr 185 true) (abG aa (abG aa (abG AV.p R1.cs)))],.aA [],[bf X.M X.tP X.tR X.own R2.h 2 R2.k R2.e R2.p R2.nx,.dead,.ob (aG.gr 185 true) (abG AV.p R2.cs)]⟩
 (.call ⟨114,[.mp 0 0,sI .i64 q],[bf X.M X.tP X.tR X.own R2.h 1 R2.k R2.e R2.p R2.nx,.ob (aG.gr 185 true) (abG aa (abG aa (abG AV.p R2.cs)))],.aA [],[bf X.M X.tP X.tR X.own R3.h 2 R3.k R3.e R3.p R3.nx,.dead,.ob (aG.gr 185 true) (abG AV.p R3.cs)]⟩
 (fk X R3))))
 (.test (op==13)
 (.call ⟨116,[.mp 0 0,sI .u32 a,sI .i64 q],[bf X.M X.tP X.tR X.own R.h 1 R.k R.e R.p R.nx,.ob (aG.gr 185 true) (abG aa (abG AV.p R.cs))],sI .i64 v,[bf X.M X.tP X.tR X.own R1.h 1 R1.k R1.e R1.p R1.nx,.ob (aG.gr 185 true) (abG AV.p R1.cs)]⟩
 (.call ⟨117,[.mp 0 0,sI .i64 1,sI .i64 q],[bf X.M X.tP X.tR X.own R1.h 1 R1.k R1.e R1.p R1.nx,.ob (aG.gr 185 true) (abG aa (abG aa (abG AV.p R1.cs)))],.aA [],[bf X.M X.tP X.tR X.own R2.h 2 R2.k R2.e R2.p R2.nx,.dead,.ob (aG.gr 185 true) (abG AV.p R2.cs)]⟩
 (.call ⟨117,[.mp 0 0,sI .i64 v,sI .i64 q],[bf X.M X.tP X.tR X.own R2.h 1 R2.k R2.e R2.p R2.nx,.ob (aG.gr 185 true) (abG aa (abG aa (abG AV.p R2.cs)))],.aA [],[bf X.M X.tP X.tR X.own R3.h 2 R3.k R3.e R3.p R3.nx,.dead,.ob (aG.gr 185 true) (abG AV.p R3.cs)]⟩
 (.call ⟨118,[.mp 0 0,sI .i64 v,sI .i64 q],[bf X.M X.tP X.tR X.own R3.h 1 R3.k R3.e R3.p R3.nx,.ob (aG.gr 185 true) (abG aa (abG aa (abG AV.p R3.cs)))],.aA [],[bf X.M X.tP X.tR X.own R4.h 2 R4.k R4.e R4.p R4.nx,.dead,.ob (aG.gr 185 true) (abG AV.p R4.cs)]⟩
 (.out (.ret (.aA []) [bf X.M X.tP X.tR X.own R4.h 2 R4.k R4.e R4.p R4.nx,.dead,.ob (aG.gr 185 true) (abG aa (abG aa (abG AV.p R4.cs)))]))))))
 (.test (op==14)
 (.call ⟨119,[.mp 0 0,.agg [sI .i64 op,sI .i64 r,sI .u32 a,sI .u32 b,sI .i32 nn,.p (.ps tg.length 1 (dw abb tg)),.p (.ps ll.length 8 (aq ll)),.p (.ps le.length 8 (aq le))],sI .i64 q],[bf X.M X.tP X.tR X.own R.h 1 R.k R.e R.p R.nx,.ob (aG.gr 185 true) (abG aa (abG AV.p R.cs))],.aA [],[bf X.M X.tP X.tR X.own R1.h 2 R1.k R1.e R1.p R1.nx,.dead,.ob (aG.gr 185 true) (abG AV.p R1.cs)]⟩
 (eP X R1))
 (.test (op==15)
 (.call ⟨117,[.mp 0 0,sI .i64 X.tR,sI .i64 q],[bf X.M X.tP X.tR X.own R.h 1 R.k R.e R.p R.nx,.ob (aG.gr 185 true) (abG aa (abG AV.p R.cs))],.aA [],[bf X.M X.tP X.tR X.own R1.h 2 R1.k R1.e R1.p R1.nx,.dead,.ob (aG.gr 185 true) (abG AV.p R1.cs)]⟩
 (.call ⟨114,[.mp 0 0,sI .i64 q],[bf X.M X.tP X.tR X.own R1.h 1 R1.k R1.e R1.p R1.nx,.ob (aG.gr 185 true) (abG aa (abG aa (abG AV.p R1.cs)))],.aA [],[bf X.M X.tP X.tR X.own R2.h 2 R2.k R2.e R2.p R2.nx,.dead,.ob (aG.gr 185 true) (abG AV.p R2.cs)]⟩
 (.out (.ret (.aA []) [bf X.M X.tP X.tR X.own R2.h 2 R2.k R2.e R2.p R2.nx,.dead,.ob (aG.gr 185 true) (abG aa (abG aa (abG AV.p R2.cs)))]))))
 (.test (op==16)
 (.call ⟨42,[.agg (qo X.M),sI .u32 a],[],.aA [.agg [sI .i64 P,sI .i64 Q],.p (.sc (.bool is))],[]⟩
 (.call ⟨120,[.mp 0 0,.p (.sc (.bool is)),sI .i64 6,sI .i64 q],[bf X.M X.tP X.tR X.own R.h 1 R.k R.e R.p R.nx,.ob (aG.gr 185 true) (abG aa (abG AV.p R.cs))],.aA [],[bf X.M X.tP X.tR X.own R2.h 1 R2.k R2.e R2.p R2.nx,.ob (aG.gr 185 true) (abG AV.p R2.cs)]⟩
 (.call ⟨121,[.mp 0 0,.agg [sI .i64 P,sI .i64 Q],sI .i64 q],[bf X.M X.tP X.tR X.own R2.h 1 R2.k R2.e R2.p R2.nx,.ob (aG.gr 185 true) (abG aa (abG aa (abG AV.p R2.cs)))],.aA [],[bf X.M X.tP X.tR X.own R3.h 2 R3.k R3.e R3.p R3.nx,.dead,.ob (aG.gr 185 true) (abG AV.p R3.cs)]⟩
 (fk X R3))))
 (.must (!(op==17))
 (.call ⟨122,[.mp 0 0,.agg [sI .i64 op,sI .i64 r,sI .u32 a,sI .u32 b,sI .i32 nn,.p (.ps tg.length 1 (dw abb tg)),.p (.ps ll.length 8 (aq ll)),.p (.ps le.length 8 (aq le))],sI .i64 q],[bf X.M X.tP X.tR X.own R.h 1 R.k R.e R.p R.nx,.ob (aG.gr 185 true) (abG aa (abG AV.p R.cs))],.aA [],[bf X.M X.tP X.tR X.own R1.h 2 R1.k R1.e R1.p R1.nx,.dead,.ob (aG.gr 185 true) (abG AV.p R1.cs)]⟩
 (eP X R1))))))))))))
theorem iW (X:Lx) (R:Rw) (R1:Rw) (R2:Rw) (R3:Rw) (R4:Rw) (R5:Rw) (R6:Rw) (R7:Rw) (op r a b nn:Int) (tg:List Int) (ll:List Ins) (le:List Ins) (q v P Q:Int) (is:Bool):aH ab5 env Z3 1000000 106 ([AV.mp 0 0,dR op r a b nn tg ll le,sI rn q]) (eK X R) (adX X R R1 R2 R3 R4 R5 R6 R7 op r a b nn tg ll le q v P Q is)=jv X R R1 R2 R3 R4 R5 R6 R7 op r a b nn tg ll le q v P Q is:=by kernel_rfl
def Z4:bD:=aQ aI av [] [(106,0,0),(106,0,1),(106,0,2),(106,0,3),(106,0,4),(106,0,5),(106,0,6),(106,0,7),(106,0,8),(106,0,9),(106,0,10)] [(106,0,10),(106,0,11)]
def adY (X:Lx) (R:Rw) (R1:Rw) (R2:Rw) (R3:Rw) (R4:Rw) (R5:Rw) (R6:Rw) (R7:Rw) (op r a b nn:Int) (tg:List Int) (ll:List Ins) (le:List Ins) (q v P Q:Int) (is:Bool):Sc:=(.no (.no (.no (.no (.no (.no (.no (.no (.no (.yes (.ans 120 (.aA []) ([bf X.M X.tP X.tR X.own R1.h 1 R1.k R1.e R1.p R1.nx,.ob (aG.gr 185 true) (abG AV.p R1.cs)]) (.ans 117 (.aA []) ([bf X.M X.tP X.tR X.own R2.h 2 R2.k R2.e R2.p R2.nx,.dead,.ob (aG.gr 185 true) (abG AV.p R2.cs)]) (.fork (.ans 121 (.aA []) ([bf X.M X.tP X.tR X.own R3.h 2 R3.k R3.e R3.p R3.nx,.dead,.ob (aG.gr 185 true) (abG AV.p R3.cs)]) .fin) .fin)))))))))))))
def Jy (X:Lx) (R:Rw) (R1:Rw) (R2:Rw) (R3:Rw) (R4:Rw) (R5:Rw) (R6:Rw) (R7:Rw) (op r a b nn:Int) (tg:List Int) (ll:List Ins) (le:List Ins) (q v P Q:Int) (is:Bool):aC:=
 (.must (!(op==0))
 (.must (!(op==2))
 (.must (!(op==3))
 (.must (!(op==4))
 (.must (!(op==12))
 (.must (!(op==13))
 (.must (!(op==14))
 (.must (!(op==15))
 (.must (!(op==16))
 (.must (op==17)
 (.must (dy (.p (.sc (.bool (decide ((↑X.M.sy:Int)>0))))) (sB true)&&true&&true)
 (.call ⟨120,[.mp 0 0,.p (.sc (.bool (decide (afo.wrap a<afo.wrap (↑X.M.mZ:Int))))),sI .i64 6,sI .i64 q],[bf X.M X.tP X.tR X.own R.h 1 R.k R.e R.p R.nx,.ob (aG.gr 185 true) (abG aa (abG AV.p R.cs))],.aA [],[bf X.M X.tP X.tR X.own R1.h 1 R1.k R1.e R1.p R1.nx,.ob (aG.gr 185 true) (abG AV.p R1.cs)]⟩
 (.call ⟨117,[.mp 0 0,sI .i64 1,sI .i64 q],[bf X.M X.tP X.tR X.own R1.h 1 R1.k R1.e R1.p R1.nx,.ob (aG.gr 185 true) (abG aa (abG aa (abG AV.p R1.cs)))],.aA [],[bf X.M X.tP X.tR X.own R2.h 2 R2.k R2.e R2.p R2.nx,.dead,.ob (aG.gr 185 true) (abG AV.p R2.cs)]⟩
 (.test (decide (afo.wrap a<afo.wrap (↑X.M.mZ:Int)))
 (.must (bp a X.M.mZ&&true&&true&&(isInt rn (aB X.M.tJ (a.toNat*2))&&(isInt rn (aB X.M.tJ (a.toNat*2+1))&&true)&&true&&dy (.agg [sI .i64 (az (aB X.M.tJ (a.toNat*2))),sI .i64 (az (aB X.M.tJ (a.toNat*2+1)))]) (.agg [sI .i64 P,sI .i64 Q])&&true)&&true)
 (.call ⟨121,[.mp 0 0,.agg [sI .i64 P,sI .i64 Q],sI .i64 q],[bf X.M X.tP X.tR X.own R2.h 1 R2.k R2.e R2.p R2.nx,.ob (aG.gr 185 true) (abG aa (abG aa (abG AV.p R2.cs)))],.aA [],[bf X.M X.tP X.tR X.own R3.h 2 R3.k R3.e R3.p R3.nx,.dead,.ob (aG.gr 185 true) (abG AV.p R3.cs)]⟩
 (.out (.ret (.aA []) [bf X.M X.tP X.tR X.own R3.h 2 R3.k R3.e R3.p R3.nx,.dead,.ob (aG.gr 185 true) (abG aa (abG aa (abG AV.p R3.cs)))]))))
 (.out (.ret (.aA []) [bf X.M X.tP X.tR X.own R2.h 2 R2.k R2.e R2.p R2.nx,.dead,.ob (aG.gr 185 true) (abG aa (abG aa (abG AV.p R2.cs)))]))))))))))))))))
theorem Q0 (X:Lx) (R:Rw) (R1:Rw) (R2:Rw) (R3:Rw) (R4:Rw) (R5:Rw) (R6:Rw) (R7:Rw) (op r a b nn:Int) (tg:List Int) (ll:List Ins) (le:List Ins) (q v P Q:Int) (is:Bool):aH ab5 (ahw X R R1 R2 R3 R4 R5 R6 R7 op r a b nn tg ll le q v P Q is) Z4 1000000 106 ([AV.mp 0 0,dR op r a b nn tg ll le,sI rn q]) (eK X R) (adY X R R1 R2 R3 R4 R5 R6 R7 op r a b nn tg ll le q v P Q is)=Jy X R R1 R2 R3 R4 R5 R6 R7 op r a b nn tg ll le q v P Q is:=by kernel_rfl
def Z5:bD:=aQ aI av [] [(106,0,0),(106,0,1),(106,0,2),(106,0,3),(106,0,4),(106,0,5),(106,0,6),(106,0,7),(106,0,8),(106,0,9)] [(106,0,10)]
def adZ (X:Lx) (R:Rw) (R1:Rw) (R2:Rw) (R3:Rw) (R4:Rw) (R5:Rw) (R6:Rw) (R7:Rw) (op r a b nn:Int) (tg:List Int) (ll:List Ins) (le:List Ins) (q v P Q:Int) (is:Bool):Sc:=(.no (.no (.no (.no (.no (.no (.no (.no (.no (.yes (.ans 120 (.aA []) ([bf X.M X.tP X.tR X.own R1.h 1 R1.k R1.e R1.p R1.nx,.ob (aG.gr 185 true) (abG AV.p R1.cs)]) (.ans 117 (.aA []) ([bf X.M X.tP X.tR X.own R2.h 2 R2.k R2.e R2.p R2.nx,.dead,.ob (aG.gr 185 true) (abG AV.p R2.cs)]) .fin))))))))))))
def Jz (X:Lx) (R:Rw) (R1:Rw) (R2:Rw) (R3:Rw) (R4:Rw) (R5:Rw) (R6:Rw) (R7:Rw) (op r a b nn:Int) (tg:List Int) (ll:List Ins) (le:List Ins) (q v P Q:Int) (is:Bool):aC:=
 (.must (!(op==0))
 (.must (!(op==2))
 (.must (!(op==3))
 (.must (!(op==4))
 (.must (!(op==12))
 (.must (!(op==13))
 (.must (!(op==14))
 (.must (!(op==15))
 (.must (!(op==16))
 (.must (op==17)
 (.must (dy (.p (.sc (.bool (decide ((↑X.M.sy:Int)>0))))) (sB false)&&true&&true)
 (.call ⟨120,[.mp 0 0,sB false,sI .i64 6,sI .i64 q],[bf X.M X.tP X.tR X.own R.h 1 R.k R.e R.p R.nx,.ob (aG.gr 185 true) (abG aa (abG AV.p R.cs))],.aA [],[bf X.M X.tP X.tR X.own R1.h 1 R1.k R1.e R1.p R1.nx,.ob (aG.gr 185 true) (abG AV.p R1.cs)]⟩
 (.call ⟨117,[.mp 0 0,sI .i64 1,sI .i64 q],[bf X.M X.tP X.tR X.own R1.h 1 R1.k R1.e R1.p R1.nx,.ob (aG.gr 185 true) (abG aa (abG aa (abG AV.p R1.cs)))],.aA [],[bf X.M X.tP X.tR X.own R2.h 2 R2.k R2.e R2.p R2.nx,.dead,.ob (aG.gr 185 true) (abG AV.p R2.cs)]⟩
 (.out (.ret (.aA []) [bf X.M X.tP X.tR X.own R2.h 2 R2.k R2.e R2.p R2.nx,.dead,.ob (aG.gr 185 true) (abG aa (abG aa (abG AV.p R2.cs)))])))))))))))))))
theorem Q1 (X:Lx) (R:Rw) (R1:Rw) (R2:Rw) (R3:Rw) (R4:Rw) (R5:Rw) (R6:Rw) (R7:Rw) (op r a b nn:Int) (tg:List Int) (ll:List Ins) (le:List Ins) (q v P Q:Int) (is:Bool):aH ab5 (ahx X R R1 R2 R3 R4 R5 R6 R7 op r a b nn tg ll le q v P Q is) Z5 1000000 106 ([AV.mp 0 0,dR op r a b nn tg ll le,sI rn q]) (eK X R) (adZ X R R1 R2 R3 R4 R5 R6 R7 op r a b nn tg ll le q v P Q is)=Jz X R R1 R2 R3 R4 R5 R6 R7 op r a b nn tg ll le q v P Q is:=by kernel_rfl
def Z6:bD:=aQ aI av [] [(115,0,0)] []
def ad0 (X:Lx) (R:Rw) (R1:Rw) (R2:Rw) (R3:Rw) (R4:Rw) (R5:Rw) (R6:Rw) (R7:Rw) (op r a b nn:Int) (tg:List Int) (ll:List Ins) (le:List Ins) (q:Int):Sc:=(.yes (.ans 131 (.aA []) ([bf X.M X.tP X.tR X.own R1.h 2 R1.k R1.e R1.p R1.nx,.dead,.ob (aG.gr 185 true) (abG AV.p R1.cs)]) (.ans 90 (.aA []) ([bf X.M X.tP X.tR X.own R2.h 2 R2.k R2.e R2.p R2.nx,.dead,.ob (aG.gr 185 true) (abG AV.p R2.cs)]) (.ans 91 (.aA []) ([bf X.M X.tP X.tR X.own R3.h 2 R3.k R3.e R3.p R3.nx,.dead,.ob (aG.gr 185 true) (abG AV.p R3.cs)]) .fin))))
def JA (X:Lx) (R:Rw) (R1:Rw) (R2:Rw) (R3:Rw) (R4:Rw) (R5:Rw) (R6:Rw) (R7:Rw) (op r a b nn:Int) (tg:List Int) (ll:List Ins) (le:List Ins) (q:Int):aC:=
 (.must (op != 4)
 (.call ⟨131,[.mp 0 0,sI .i64 op,sI .i64 r,sI .i64 q],[bf X.M X.tP X.tR X.own R.h 1 R.k R.e R.p R.nx,.ob (aG.gr 185 true) (abG aa (abG AV.p R.cs))],.aA [],[bf X.M X.tP X.tR X.own R1.h 2 R1.k R1.e R1.p R1.nx,.dead,.ob (aG.gr 185 true) (abG AV.p R1.cs)]⟩
 (.call ⟨90,[.mp 0 0,.p (.ps ll.length 8 (aq ll))],[bf X.M X.tP X.tR X.own R1.h 1 R1.k R1.e R1.p R1.nx,.ob (aG.gr 185 true) (abG aa (abG aa (abG AV.p R1.cs)))],.aA [],[bf X.M X.tP X.tR X.own R2.h 2 R2.k R2.e R2.p R2.nx,.dead,.ob (aG.gr 185 true) (abG AV.p R2.cs)]⟩
 (.call ⟨91,[.mp 0 0,sI .i64 q],[bf X.M X.tP X.tR X.own R2.h 1 R2.k R2.e R2.p R2.nx,.ob (aG.gr 185 true) (abG aa (abG aa (abG AV.p R2.cs)))],.aA [],[bf X.M X.tP X.tR X.own R3.h 2 R3.k R3.e R3.p R3.nx,.dead,.ob (aG.gr 185 true) (abG AV.p R3.cs)]⟩
 (.out (.ret (.aA []) [bf X.M X.tP X.tR X.own R3.h 2 R3.k R3.e R3.p R3.nx,.dead,.ob (aG.gr 185 true) (abG aa (abG aa (abG AV.p R3.cs)))]))))))
theorem Q2 (X:Lx) (R:Rw) (R1:Rw) (R2:Rw) (R3:Rw) (R4:Rw) (R5:Rw) (R6:Rw) (R7:Rw) (op r a b nn:Int) (tg:List Int) (ll:List Ins) (le:List Ins) (q:Int):aH ab5 env Z6 1000000 115 ([AV.mp 0 0,dR op r a b nn tg ll le,sI rn q]) (eK X R) (ad0 X R R1 R2 R3 R4 R5 R6 R7 op r a b nn tg ll le q)=JA X R R1 R2 R3 R4 R5 R6 R7 op r a b nn tg ll le q:=by kernel_rfl
def Z7:bD:=aQ aI av [] [(115,0,1)] []
def ad1 (X:Lx) (R:Rw) (R1:Rw) (R2:Rw) (R3:Rw) (R4:Rw) (R5:Rw) (R6:Rw) (R7:Rw) (r a b nn:Int) (tg:List Int) (ll:List Ins) (le:List Ins) (q:Int):Sc:=(.ans 117 (.aA []) ([bf X.M X.tP X.tR X.own R1.h 2 R1.k R1.e R1.p R1.nx,.dead,.ob (aG.gr 185 true) (abG AV.p R1.cs)]) (.ans 131 (.aA []) ([bf X.M X.tP X.tR X.own R2.h 2 R2.k R2.e R2.p R2.nx,.dead,.ob (aG.gr 185 true) (abG AV.p R2.cs)]) (.ans 90 (.aA []) ([bf X.M X.tP X.tR X.own R3.h 2 R3.k R3.e R3.p R3.nx,.dead,.ob (aG.gr 185 true) (abG AV.p R3.cs)]) (.ans 91 (.aA []) ([bf X.M X.tP X.tR X.own R4.h 2 R4.k R4.e R4.p R4.nx,.dead,.ob (aG.gr 185 true) (abG AV.p R4.cs)]) (.fork .fin (.ans 131 (.aA []) ([bf X.M X.tP X.tR X.own R5.h 2 R5.k R5.e R5.p R5.nx,.dead,.ob (aG.gr 185 true) (abG AV.p R5.cs)]) (.ans 90 (.aA []) ([bf X.M X.tP X.tR X.own R6.h 2 R6.k R6.e R6.p R6.nx,.dead,.ob (aG.gr 185 true) (abG AV.p R6.cs)]) (.ans 91 (.aA []) ([bf X.M X.tP X.tR X.own R7.h 2 R7.k R7.e R7.p R7.nx,.dead,.ob (aG.gr 185 true) (abG AV.p R7.cs)]) .fin))))))))
def JB (X:Lx) (R:Rw) (R1:Rw) (R2:Rw) (R3:Rw) (R4:Rw) (R5:Rw) (R6:Rw) (R7:Rw) (r a b nn:Int) (tg:List Int) (ll:List Ins) (le:List Ins) (q:Int):aC:=
 (.call ⟨117,[.mp 0 0,sI .i64 1,sI .i64 q],[bf X.M X.tP X.tR X.own R.h 1 R.k R.e R.p R.nx,.ob (aG.gr 185 true) (abG aa (abG AV.p R.cs))],.aA [],[bf X.M X.tP X.tR X.own R1.h 2 R1.k R1.e R1.p R1.nx,.dead,.ob (aG.gr 185 true) (abG AV.p R1.cs)]⟩
 (.call ⟨131,[.mp 0 0,sI .i64 4,sI .i64 r,sI .i64 q],[bf X.M X.tP X.tR X.own R1.h 1 R1.k R1.e R1.p R1.nx,.ob (aG.gr 185 true) (abG aa (abG aa (abG AV.p R1.cs)))],.aA [],[bf X.M X.tP X.tR X.own R2.h 2 R2.k R2.e R2.p R2.nx,.dead,.ob (aG.gr 185 true) (abG AV.p R2.cs)]⟩
 (.call ⟨90,[.mp 0 0,.p (.ps ll.length 8 (aq ll))],[bf X.M X.tP X.tR X.own R2.h 1 R2.k R2.e R2.p R2.nx,.ob (aG.gr 185 true) (abG aa (abG aa (abG AV.p R2.cs)))],.aA [],[bf X.M X.tP X.tR X.own R3.h 2 R3.k R3.e R3.p R3.nx,.dead,.ob (aG.gr 185 true) (abG AV.p R3.cs)]⟩
 (.call ⟨91,[.mp 0 0,sI .i64 q],[bf X.M X.tP X.tR X.own R3.h 1 R3.k R3.e R3.p R3.nx,.ob (aG.gr 185 true) (abG aa (abG aa (abG AV.p R3.cs)))],.aA [],[bf X.M X.tP X.tR X.own R4.h 2 R4.k R4.e R4.p R4.nx,.dead,.ob (aG.gr 185 true) (abG AV.p R4.cs)]⟩
 (.test (R4.e != 0)
 (.out (.ret (.aA []) [bf X.M X.tP X.tR X.own R4.h 2 R4.k R4.e R4.p R4.nx,.dead,.ob (aG.gr 185 true) (abG aa (abG aa (abG AV.p R4.cs)))]))
 (.call ⟨131,[.mp 0 0,sI .i64 5,sI .i64 r,sI .i64 q],[bf X.M X.tP X.tR X.own R1.h 1 R1.k R4.e R4.p R4.nx,.dead],.aA [],[bf X.M X.tP X.tR X.own R5.h 2 R5.k R5.e R5.p R5.nx,.dead,.ob (aG.gr 185 true) (abG AV.p R5.cs)]⟩
 (.call ⟨90,[.mp 0 0,.p (.ps le.length 8 (aq le))],[bf X.M X.tP X.tR X.own R5.h 1 R5.k R5.e R5.p R5.nx,.ob (aG.gr 185 true) (abG aa (abG aa (abG AV.p R5.cs)))],.aA [],[bf X.M X.tP X.tR X.own R6.h 2 R6.k R6.e R6.p R6.nx,.dead,.ob (aG.gr 185 true) (abG AV.p R6.cs)]⟩
 (.call ⟨91,[.mp 0 0,sI .i64 q],[bf X.M X.tP X.tR X.own R6.h 1 R6.k R6.e R6.p R6.nx,.ob (aG.gr 185 true) (abG aa (abG aa (abG AV.p R6.cs)))],.aA [],[bf X.M X.tP X.tR X.own R7.h 2 R7.k R7.e R7.p R7.nx,.dead,.ob (aG.gr 185 true) (abG AV.p R7.cs)]⟩
 (.out (.ret (.aA []) [bf X.M X.tP X.tR X.own R7.h 2 R7.k R7.e R7.p R7.nx,.dead,.ob (aG.gr 185 true) (abG aa (abG aa (abG AV.p R7.cs)))]))))))))))
theorem Q3 (X:Lx) (R:Rw) (R1:Rw) (R2:Rw) (R3:Rw) (R4:Rw) (R5:Rw) (R6:Rw) (R7:Rw) (r a b nn:Int) (tg:List Int) (ll:List Ins) (le:List Ins) (q:Int):aH ab5 env Z7 1000000 115 ([AV.mp 0 0,dR 4 r a b nn tg ll le,sI rn q]) (eK X R) (ad1 X R R1 R2 R3 R4 R5 R6 R7 r a b nn tg ll le q)=JB X R R1 R2 R3 R4 R5 R6 R7 r a b nn tg ll le q:=by kernel_rfl
def Z8:bD:=aQ aI av [] [(115,0,1)] []
def ad2 (X:Lx) (R:Rw) (R1:Rw) (R2:Rw) (R3:Rw) (R4:Rw) (R5:Rw) (R6:Rw) (R7:Rw) (r a b nn:Int) (tg:List Int) (ll:List Ins) (le:List Ins) (q:Int):Sc:=(.ans 117 (.aA []) ([bf X.M X.tP X.tR X.own R1.h 2 R1.k R1.e R1.p R1.nx,.dead,.ob (aG.gr 185 true) (abG AV.p R1.cs)]) (.ans 131 (.aA []) ([bf X.M X.tP X.tR X.own R2.h 2 R2.k R2.e R2.p R2.nx,.ob (aG.gr 185 true) (abG aa (abG aa (abG AV.p R1.cs))),.ob (aG.gr 185 true) (abG AV.p R2.cs)]) (.ans 90 (.aA []) ([bf X.M X.tP X.tR X.own R3.h 2 R3.k R3.e R3.p R3.nx,.dead,.ob (aG.gr 185 true) (abG AV.p R3.cs)]) (.ans 91 (.aA []) ([bf X.M X.tP X.tR X.own R4.h 2 R4.k R4.e R4.p R4.nx,.dead,.ob (aG.gr 185 true) (abG AV.p R4.cs)]) (.fork .fin (.ans 131 (.aA []) ([bf X.M X.tP X.tR X.own R5.h 2 R5.k R5.e R5.p R5.nx,.dead,.ob (aG.gr 185 true) (abG AV.p R5.cs)]) (.ans 90 (.aA []) ([bf X.M X.tP X.tR X.own R6.h 2 R6.k R6.e R6.p R6.nx,.dead,.ob (aG.gr 185 true) (abG AV.p R6.cs)]) (.ans 91 (.aA []) ([bf X.M X.tP X.tR X.own R7.h 2 R7.k R7.e R7.p R7.nx,.dead,.ob (aG.gr 185 true) (abG AV.p R7.cs)]) .fin))))))))
def JC (X:Lx) (R:Rw) (R1:Rw) (R2:Rw) (R3:Rw) (R4:Rw) (R5:Rw) (R6:Rw) (R7:Rw) (r a b nn:Int) (tg:List Int) (ll:List Ins) (le:List Ins) (q:Int):aC:=
 (.call ⟨117,[.mp 0 0,sI .i64 1,sI .i64 q],[bf X.M X.tP X.tR X.own R.h 1 R.k R.e R.p R.nx,.ob (aG.gr 185 true) (abG aa (abG AV.p R.cs))],.aA [],[bf X.M X.tP X.tR X.own R1.h 2 R1.k R1.e R1.p R1.nx,.dead,.ob (aG.gr 185 true) (abG AV.p R1.cs)]⟩
 (.call ⟨131,[.mp 0 0,sI .i64 4,sI .i64 r,sI .i64 q],[bf X.M X.tP X.tR X.own R1.h 1 R1.k R1.e R1.p R1.nx,.ob (aG.gr 185 true) (abG aa (abG aa (abG AV.p R1.cs)))],.aA [],[bf X.M X.tP X.tR X.own R2.h 2 R2.k R2.e R2.p R2.nx,.ob (aG.gr 185 true) (abG aa (abG aa (abG AV.p R1.cs))),.ob (aG.gr 185 true) (abG AV.p R2.cs)]⟩
 (.call ⟨90,[.mp 0 0,.p (.ps ll.length 8 (aq ll))],[bf X.M X.tP X.tR X.own R2.h 1 R2.k R2.e R2.p R2.nx,.ob (aG.gr 185 true) (abG aa (abG aa (abG AV.p R2.cs)))],.aA [],[bf X.M X.tP X.tR X.own R3.h 2 R3.k R3.e R3.p R3.nx,.dead,.ob (aG.gr 185 true) (abG AV.p R3.cs)]⟩
 (.call ⟨91,[.mp 0 0,sI .i64 q],[bf X.M X.tP X.tR X.own R3.h 1 R3.k R3.e R3.p R3.nx,.ob (aG.gr 185 true) (abG aa (abG aa (abG AV.p R3.cs)))],.aA [],[bf X.M X.tP X.tR X.own R4.h 2 R4.k R4.e R4.p R4.nx,.dead,.ob (aG.gr 185 true) (abG AV.p R4.cs)]⟩
 (.test (R4.e != 0)
 (.out (.ret (.aA []) [bf X.M X.tP X.tR X.own R4.h 2 R4.k R4.e R4.p R4.nx,.dead,.ob (aG.gr 185 true) (abG aa (abG aa (abG AV.p R4.cs)))]))
 (.call ⟨131,[.mp 0 0,sI .i64 5,sI .i64 r,sI .i64 q],[bf X.M X.tP X.tR X.own R1.h 1 R1.k R4.e R4.p R4.nx,.ob (aG.gr 185 true) (abG aa (abG aa (abG aa (abG aa (abG AV.p R1.cs)))))],.aA [],[bf X.M X.tP X.tR X.own R5.h 2 R5.k R5.e R5.p R5.nx,.dead,.ob (aG.gr 185 true) (abG AV.p R5.cs)]⟩
 (.call ⟨90,[.mp 0 0,.p (.ps le.length 8 (aq le))],[bf X.M X.tP X.tR X.own R5.h 1 R5.k R5.e R5.p R5.nx,.ob (aG.gr 185 true) (abG aa (abG aa (abG AV.p R5.cs)))],.aA [],[bf X.M X.tP X.tR X.own R6.h 2 R6.k R6.e R6.p R6.nx,.dead,.ob (aG.gr 185 true) (abG AV.p R6.cs)]⟩
 (.call ⟨91,[.mp 0 0,sI .i64 q],[bf X.M X.tP X.tR X.own R6.h 1 R6.k R6.e R6.p R6.nx,.ob (aG.gr 185 true) (abG aa (abG aa (abG AV.p R6.cs)))],.aA [],[bf X.M X.tP X.tR X.own R7.h 2 R7.k R7.e R7.p R7.nx,.dead,.ob (aG.gr 185 true) (abG AV.p R7.cs)]⟩
 (.out (.ret (.aA []) [bf X.M X.tP X.tR X.own R7.h 2 R7.k R7.e R7.p R7.nx,.dead,.ob (aG.gr 185 true) (abG aa (abG aa (abG AV.p R7.cs)))]))))))))))
theorem Q4 (X:Lx) (R:Rw) (R1:Rw) (R2:Rw) (R3:Rw) (R4:Rw) (R5:Rw) (R6:Rw) (R7:Rw) (r a b nn:Int) (tg:List Int) (ll:List Ins) (le:List Ins) (q:Int):aH ab5 env Z8 1000000 115 ([AV.mp 0 0,dR 4 r a b nn tg ll le,sI rn q]) (eK X R) (ad2 X R R1 R2 R3 R4 R5 R6 R7 r a b nn tg ll le q)=JC X R R1 R2 R3 R4 R5 R6 R7 r a b nn tg ll le q:=by kernel_rfl
set_option linter.unusedSimpArgs false
theorem JD {h h':Int} {t:Fr} {d:Bool} : ∀{o:List Fr} {b:Int},yZ h b (o++[t])→t.base≤h'→yZ h' b (o++[⟨t.op,t.base,t.res,d⟩])∧b≤t.base
 |[],_,⟨h1,h2,_,h4,h5,_⟩,hh=>⟨⟨h1,h2,hh,h4,h5,trivial⟩,h2⟩
 |f::o,b,⟨h1,h2,h3,h4,h5,h6⟩,hh=>by
  obtain⟨q1,q2⟩:=JD (o:=o) h6 hh
  exact⟨⟨h1,h2,by omega,h4,h5,q1⟩,by omega⟩
theorem j3 {h h':Int} {o:List Fr} {t:Fr} {d:Bool} (hk:fO h (o++[t])) (h1:t.base≤h') (h2:h'≤1073741824):fO h' (o++[⟨t.op,t.base,t.res,d⟩]):=by
 cases o with
 |nil=>
  obtain⟨k1,k2,k3,k4,k5,k6,k7,k8⟩:=hk
  exact⟨k1,k2,k3,k4,trivial,by omega,h2,k8⟩
 |cons f o=>
  obtain⟨k1,k2,k3,k4,k5,k6,k7,k8⟩:=hk
  obtain⟨q1,q2⟩:=JD (d:=d) k5 h1
  exact⟨k1,k2,k3,k4,q1,by omega,h2,by simpa using k8⟩
theorem Fj {h op n:Int} (ho:op=2∨op=3∨op=4∨op=5) (hn:0≤n) (hn1:n≤1) : ∀{o:List Fr} {b:Int},yZ h b o→b≤h→yZ h b (o++[⟨op,h,n,false⟩])
 |[],_,_,hb=>⟨ho,hb,af7 _,hn,hn1,trivial⟩
 |_::_,_,⟨h1,h2,h3,h4,h5,h6⟩,_=>⟨h1,h2,h3,h4,h5,Fj ho hn hn1 h6 h3⟩
theorem Fk {h op n:Int} {o:List Fr} (hk:fO h o) (ho:op=2∨op=3∨op=4∨op=5) (hn:0≤n) (hn1:n≤1) (hl:o.length<1000):fO h (o++[⟨op,h,n,false⟩]):=by
 cases o with
 |nil=>exact hk.elim
 |cons f o=>
  obtain⟨k1,k2,k3,k4,k5,k6,k7,k8⟩:=hk
  exact⟨k1,k2,k3,k4,Fj ho hn hn1 k5 k6,k6,k7,by simp at hl ⊢;omega⟩
theorem Fl {h:Int} : ∀{l m:List Fr} {b:Int},yZ h b (l++m)→yZ h b l
 |[],_,_,_=>trivial
 |_::_,_,_,⟨h1,h2,h3,h4,h5,h6⟩=>⟨h1,h2,h3,h4,h5,Fl h6⟩
theorem Fm {h:Int} {l m:List Fr} (hk:fO h (l++m)) (hl:l≠[]):fO h l:=by
 cases l with
 |nil=>exact absurd rfl hl
 |cons f o=>
  obtain⟨k1,k2,k3,k4,k5,k6,k7,k8⟩:=hk
  exact⟨k1,k2,k3,k4,Fl k5,k6,k7,by simp at k8;omega⟩
theorem BG {h:Int} {s t:Fr} : ∀{o:List Fr} {b:Int},yZ h b (o++[s]++[t])→s.base≤t.base
 |[],_,⟨_,_,_,_,_,_,h2,_⟩=>h2
 |_::o,_,⟨_,_,_,_,_,h6⟩=>BG (o:=o) h6
theorem Db {h:Int} {s t:Fr} {o:List Fr} (hk:fO h (o++[s]++[t])):s.base≤t.base:=by
 cases o with
 |nil=>
  obtain⟨k1,k2,k3,k4,⟨_,q2,_⟩,k6,k7,k8⟩:=hk
  rw[k2];exact q2
 |cons f o=>
  obtain⟨k1,k2,k3,k4,k5,k6,k7,k8⟩:=hk
  exact BG (o:=o) k5
def bJ (l:List Fr):List Nat:=l.reverse.map fun f=>if f.op=3 then 0 else f.res.toNat
theorem Q5 (l:List Fr) (t:Fr):bJ (l++[t])=(if t.op=3 then 0 else t.res.toNat)::bJ l:=by simp[bJ]
structure nV (R:Rw) (o:List Fr) (t:Fr) (n:Nat):Prop where
 h:R.h=t.base+n
 k:R.k=o.length+1
 cs : ∃ex,R.cs=aT (o++[t])++ex
 ok:fO R.h (o++[t])
structure dS (R:Rw) (o:List Fr) (t:Fr) (n c:Nat):Prop extends gY:nV R o t n where
 e:R.e=0
 nx:R.nx=c
 p0:R.p=0
 le:R.h≤c
def dx (o:List Fr) (t:Fr) (R:Rw):VR→Prop
 |.bK e q=>R.e=e∧e≠0∧R.p=q
 |.ok n d c=>dS R o ⟨t.op,t.base,t.res,d⟩ n c
theorem jl {z:Int} (h1:0≤z) (h2:z≤18446744073709551615):afo.wrap z=z:=by
 show z%18446744073709551616=z
 omega
section
variable {X:Lx} {R:Rw} {o:List Fr} {t:Fr} {n c:Nat}
theorem nV.HA (g:nV R o t n):0≤t.base∧0≤t.res∧t.res≤1∧R.h≤1073741824∧o.length+1≤1000:=by
 obtain⟨q1,q2,q3⟩:=vc g.ok
 obtain⟨m1,m2,m3,m4⟩:=iV g.ok t (by simp)
 exact⟨m1,m3,m4,q2,by simpa using q3⟩
theorem oH (g:dS R o t n c) (m q:Nat) : ∃R',cT X 117 [sI .i64 m,sI .i64 q] R R'∧dx o t R' (dK q m n t.dead fun n'=> .ok n' t.dead c)∧R'.h≤R.h∧R'.nx=R.nx:=by
 obtain⟨ex,hex⟩:=g.cs
 obtain⟨b1,b2,b3,b4,b5⟩:=g.gY.HA
 have hh:=g.h
 have hle:=g.le
 by_cases hb:n<m∧t.dead=false
 · have hd:=UR ex g.ok (n:=m) (by omega) (by omega) hb.2
   rw[←g.k,←hex] at hd
   refine⟨_,ahn (X:=X) (q:=q) g.e (by decide) hd,?_,af7 _,rfl⟩
   rw[dK,if_pos hb]
   exact⟨rfl,by decide,rfl⟩
 · rw[dK,if_neg hb]
   by_cases hm:m≤n
   · have hd:=ZV ex g.ok (n:=m) (by omega) (by omega)
     rw[←g.k,←hex] at hd
     refine⟨_,adR (X:=X) (q:=q) g.e hd,⟨⟨?_,g.k,⟨[],by simp⟩,j3 g.ok ?_ ?_⟩,rfl,g.nx,g.p0,?_⟩,?_,rfl⟩<;>simp only<;>omega
   · have hdd:t.dead=true:=by cases hd:t.dead<;>simp_all<;>omega
     have hd:=QE ex g.ok (n:=m) (by omega) (by omega) hdd
     rw[←g.k,←hex] at hd
     refine⟨_,adR (X:=X) (q:=q) g.e hd,⟨⟨?_,g.k,⟨[],by simp⟩,j3 g.ok ?_ ?_⟩,rfl,g.nx,g.p0,?_⟩,?_,rfl⟩<;>simp only<;>omega
theorem Q6 (g:dS R o t n c) (m q:Nat) (hm:R.h+m≤c) (hc:c≤1000000000) : ∃R',cT X 118 [sI .i64 m,sI .i64 q] R R'∧dS R' o t (n+m) c:=by
 obtain⟨ex,hex⟩:=g.cs
 obtain⟨b1,b2,b3,b4,b5⟩:=g.gY.HA
 have hh:=g.h
 have hd:=US ex g.ok (n:=m) (by omega) (by omega)
 rw[←g.k,←hex] at hd
 refine⟨_,aho (X:=X) (q:=q) g.e hd,⟨⟨?_,g.k,⟨[],by simp⟩,j3 (d:=t.dead) g.ok ?_ ?_⟩,rfl,g.nx,g.p0,?_⟩⟩<;>simp only<;>omega
theorem Fo (g:dS R o t n c) (q:Nat) : ∃R',cT X 114 [sI .i64 q] R R'∧dS R' o ⟨t.op,t.base,t.res,true⟩ 0 c∧R'.h≤R.h:=by
 obtain⟨ex,hex⟩:=g.cs
 obtain⟨b1,b2,b3,b4,b5⟩:=g.gY.HA
 have hh:=g.h
 have hle:=g.le
 have hd:=UT ex g.ok
 rw[←g.k,←hex] at hd
 refine⟨_,ahp (X:=X) (q:=q) g.e hd,⟨⟨?_,g.k,⟨[],by simp⟩,j3 g.ok ?_ ?_⟩,rfl,g.nx,g.p0,?_⟩,?_⟩<;>simp only<;>omega
theorem ahy {n r q:Int} {h2:Int} {k2:Nat} {c2:List PV} (he:R.e=0) (hd:an ab5 env 143 [.agg [sI .i64 R.h,.ms 0 0 R.k 4 none],sI .i64 n,sI .i64 r] [dj R.cs] (.aA [.agg [sI .i64 h2,.ms 1 0 k2 4 none],sI .i64 0]) [dj R.cs,dj c2]) :
  an ab5 env 131 [.mp 0 0,sI .i64 n,sI .i64 r,sI .i64 q] (eK X R) (.aA []) [bf X.M X.tP X.tR X.own h2 2 k2 0 R.p R.nx,dj R.cs,dj c2]:=by
 obtain⟨h,k,cs,e,p,nx⟩:=R
 simp only at he hd
 subst he
 refine af aM (zh X.M X.tP X.tR X.own h k cs 0 p nx n q r h2 k2 c2 0) ?_
 simp only[tO,aC.ok,aF]
 exact⟨hd,rfl⟩
theorem LM (g:dS R o t n c) {op r:Int} (q:Nat) (hop:op=2∨op=3∨op=4∨op=5) (hr:0≤r) (FO:r≤1) (ho:o.length+1<1000) :
  ∃R',cT X 131 [sI .i64 op,sI .i64 r,sI .i64 q] R R'∧an ab5 env 131 [.mp 0 0,sI .i64 op,sI .i64 r,sI .i64 q] (eK X R) (.aA []) [bf X.M X.tP X.tR X.own R'.h 2 R'.k R'.e R'.p R'.nx,dj R.cs,dj R'.cs] ∧
   dS R' (o++[t]) ⟨op,R.h,r,false⟩ 0 c:=by
 obtain⟨ex,hex⟩:=g.cs
 have hle:=g.le
 have hd:=QF ex g.ok hop hr FO ho
 rw[←g.k,←hex] at hd
 refine⟨⟨R.h,o.length+2,aT (o++[t]++[⟨op,R.h,r,false⟩]),0,R.p,R.nx⟩,ahr (X:=X) (q:=q) g.e hd,ahy (X:=X) (q:=q) g.e hd,⟨⟨?_,?_,⟨[],by simp⟩,Fk g.ok hop hr FO (by simpa using ho)⟩,rfl,g.nx,g.p0,hle⟩⟩
 · simp
 · simp
theorem LN {s:Fr} (g:dS R (o++[s]) t n c) (q:Nat) (hb:t.base+t.res≤c) (hc:c≤1000000000) :
  ∃R',cT X 91 [sI .i64 q] R R'∧dx o s R' (gM t.res.toNat n t.dead q (.ok ((t.base-s.base).toNat+t.res.toNat) s.dead c)):=by
 obtain⟨ex,hex⟩:=g.cs
 obtain⟨b1,b2,b3,b4,b5⟩:=g.gY.HA
 have hh:=g.h
 have hle:=g.le
 have hs:=Db g.ok
 have hpre:fO R.h (o++[s]):=Fm g.ok (by simp)
 obtain⟨s1,_⟩:=iV hpre s (by simp)
 have hk:R.k=(o++[s]).length+1:=g.k
 rw[gM,dK]
 have fin : ∀(R':Rw),R'=⟨t.base+t.res,(o++[s]).length,aT (o++[s]++[t]),0,R.p,R.nx⟩→dx o s R' (.ok ((t.base-s.base).toNat+t.res.toNat) s.dead c):=by
  intro R' e
  subst e
  refine⟨⟨?_,?_,⟨aT [t],by rw[←mI]⟩,j3 (d:=s.dead) hpre ?_ ?_⟩,rfl,g.nx,g.p0,hb⟩<;>simp only[de,List.length_singleton]<;>omega
 by_cases HB:n<t.res.toNat∧t.dead=false
 · have hd:=ve ex g.ok (by omega) HB.2
   rw[←hk,←hex] at hd
   refine⟨_,Vc (X:=X) (q:=q) g.e (by decide) hd,?_⟩
   rw[if_pos HB]
   exact⟨rfl,by decide,rfl⟩
 · rw[if_neg HB]
   by_cases hlt:t.res.toNat<n
   · have hd:=zg ex g.ok (by omega)
     rw[←hk,←hex] at hd
     refine⟨_,Vc (X:=X) (q:=q) g.e (by decide) hd,?_⟩
     rw[if_pos (by omega)]
     exact⟨rfl,by decide,rfl⟩
   · rw[if_neg (by omega)]
     by_cases heq:n=t.res.toNat
     · have hd:=Fg ex g.ok (by omega)
       rw[←hk,←hex] at hd
       exact⟨_,Vb (X:=X) (q:=q) g.e hd,fin _ rfl⟩
     · have hdd:t.dead=true:=by cases hd:t.dead<;>simp_all<;>omega
       have hd:=zf ex g.ok (by omega) hdd
       rw[←hk,←hex] at hd
       exact⟨_,Vb (X:=X) (q:=q) g.e hd,fin _ rfl⟩
theorem LO (g:dS R [] t n c) (q:Nat) :
  ∃R',cT X 91 [sI .i64 q] R R'∧match gM t.res.toNat n t.dead q (.ok 0 false 0) with
   |.bK e p=>R'.e=e∧R'.p=p
   |.ok .. =>R'.e=0∧R'.p=R.p:=by
 obtain⟨ex,hex⟩:=g.cs
 obtain⟨b1,b2,b3,b4,b5⟩:=g.gY.HA
 have hh:=g.h
 have hk:R.k=([]:List Fr).length+1:=g.k
 rw[gM,dK]
 by_cases HB:n<t.res.toNat∧t.dead=false
 · have hd:=ve ex g.ok (by omega) HB.2
   rw[←hk,←hex] at hd
   refine⟨_,Vc (X:=X) (q:=q) g.e (by decide) hd,?_⟩
   rw[if_pos HB]
   exact⟨rfl,rfl⟩
 · rw[if_neg HB]
   by_cases hlt:t.res.toNat<n
   · have hd:=zg ex g.ok (by omega)
     rw[←hk,←hex] at hd
     refine⟨_,Vc (X:=X) (q:=q) g.e (by decide) hd,?_⟩
     rw[if_pos (by omega)]
     exact⟨rfl,rfl⟩
   · rw[if_neg (by omega)]
     by_cases heq:n=t.res.toNat
     · have hd:=Fg ex g.ok (by omega)
       rw[←hk,←hex] at hd
       exact⟨_,Vb (X:=X) (q:=q) g.e hd,rfl,rfl⟩
     · have hdd:t.dead=true:=by cases hd:t.dead<;>simp_all<;>omega
       have hd:=zf ex g.ok (by omega) hdd
       rw[←hk,←hex] at hd
       exact⟨_,Vb (X:=X) (q:=q) g.e hd,rfl,rfl⟩
def nW (R:Rw) (b:Bool) (ec q:Int):Rw:=if b=true∨R.e≠0∨ec=0 then R else⟨R.h,R.k,R.cs,ec,q,R.nx⟩
theorem fT (b:Bool) (ec q:Int):Ask X 120 [sB b,sI .i64 ec,sI .i64 q] (.aA []) R (nW R b ec q):=by
 refine af aM (LJ X.M X.tP X.tR X.own R.h R.k R.cs R.e R.p R.nx q ec b) ?_
 simp only[Fh,qp,aC.ok,aF]
 unfold nW
 refine⟨fun h1=>⟨fun h2=>⟨fun h3=> ?_,fun h3=> ?_⟩,fun h2=> ?_⟩,fun h1=> ?_⟩
 · rw[if_neg (by simp at h1 h2 h3;simp[h1,h2,h3])];rfl
 · rw[if_pos (.inr (.inr (by simpa using h3)))];rfl
 · rw[if_pos (.inr (.inl (by simpa using h2)))];rfl
 · rw[if_pos (.inl (by simpa using h1))];rfl
theorem Wb {l:List Fr} {a:Nat} {k:Nat} (h:(bJ l)[a]? = some k) : ∃f,l[l.length-1-a]? = some f∧k=(if f.op=3 then 0 else f.res.toNat)∧a<l.length:=by
 have ha:a<l.length:=by
  obtain⟨h1,_⟩:=List.getElem?_eq_some_iff.1 h
  simpa[bJ] using h1
 have hk:l.length-1-a<l.length:=by omega
 refine⟨l[l.length-1-a],bm hk,?_,ha⟩
 have hr:l.reverse[a]? = some l[l.length-1-a]:=by
  rw[List.getElem?_reverse ha,bm hk]
 rw[bJ,List.getElem?_map,hr] at h
 simpa using h.symm
theorem LP (g:nV R o t n) {a k:Nat} (h:(bJ (o++[t]))[a]? = some k) :
  an ab5 env 132 [.agg [sI .i64 R.h,.ms 0 0 R.k 4 none],sI .i64 a] [dj R.cs] (.aA [sI .i64 k,sI .i64 0]) [dj R.cs]:=by
 obtain⟨ex,hex⟩:=g.cs
 obtain⟨b1,b2,b3,b4,b5⟩:=g.HA
 have hl:(o++[t]).length=o.length+1:=by simp
 obtain⟨f,hf,hk,ha⟩:=Wb h
 obtain⟨m1,m2,m3,m4⟩:=iV g.ok f (List.mem_of_getElem? hf)
 obtain⟨c0,c1,c2,c3⟩:=rU hf ex
 have hch:=E8 R.h (o++[t]) ex g.ok
 have hlen:(aT (o++[t])++ex).length=(o.length+1)*4+ex.length:=by rw[de,gW,hl]
 rw[hl] at hch hf c0 c1 c2 c3 ha
 rw[hex,g.k]
 refine af aM (LK R.h (o.length+1) (o.length+1-1-a) (aT (o++[t])++ex) a f.op f.base f.res f.dead) ?_
 have w1:rn.wrap (((o.length+1:Nat):Int)-1)=(o.length:Int):=by rw[aO (by omega) (by omega)];omega
 have w2:rn.wrap ((o.length:Int)-a)=((o.length+1-1-a:Nat):Int):=by rw[aO (by omega) (by omega)];omega
 have g1:decide ((a:Int)<0)=false:=by simp
 have g2:decide ((a:Int)≥((o.length+1:Nat):Int))=false:=by simp;omega
 simp only[Fi,qq,bN,aC.ok,aF,w1,w2,g1,g2,Int.toNat_natCast,Nat.zero_add,c0,c1,c2,c3,bC,gD,isInt,isBool,az,bu,ik,bp,List.length_map,hlen,
  oE,false_implies,true_implies,and_true,true_and,aeU,Bool.true_and,Nat.ble_eq,ch,decide_eq_true_eq]
 refine⟨hch,by omega,by omega,fun h3=> ?_,fun h3=> ?_⟩
 · rw[hk,if_pos (by simpa using h3)];rfl
 · rw[hk,if_neg (by simpa using h3),Int.toNat_of_nonneg m3]
theorem tS (g:nV R o t n) (a:Nat) (ha:a<4294967296) (q:Nat) :
  Ask X 116 [sI .u32 a,sI .i64 q] (sI .i64 ((bJ (o++[t])).getD a 0:Nat)) R (nW R (decide (a<(o++[t]).length)) 6 q):=by
 have hl:(o++[t]).length=o.length+1:=by simp
 have Sx:(bJ (o++[t])).length=o.length+1:=by simp[bJ]
 obtain⟨b1,b2,b3,b4,b5⟩:=g.HA
 have hgk:=g.k
 by_cases h:a<o.length+1
 · have hs:(bJ (o++[t]))[a]? = some ((bJ (o++[t])).getD a 0):=by
    rw[cb,bm (by omega)];rfl
   refine af aM (BF X.M X.tP X.tR X.own R.h R.k R.cs R.e R.p R.nx a q ((bJ (o++[t])).getD a 0:Nat) 0) ?_
   have w1:afo.wrap (a:Int)=a:=jl (by omega) (by omega)
   have w2:afo.wrap (R.k:Int)=R.k:=jl (by omega) (by omega)
   have w3:rn.wrap (a:Int)=a:=aO (by omega) (by omega)
   have g1:decide ((a:Int)≥(R.k:Int))=false:=by simp;omega
   have hA:nW R (decide (a<(o++[t]).length)) 6 q=R:=by
    unfold nW;rw[if_pos (.inl (by simp;omega))]
   simp only[zi,mJ,aC.ok,aF,w1,w2,w3,g1,hA,oE,false_implies,true_implies,true_and]
   exact⟨LP g hs,fun _=>rfl,fun _=>rfl⟩
 · refine af aM (BF X.M X.tP X.tR X.own R.h R.k R.cs R.e R.p R.nx a q 0 0) ?_
   have w1:afo.wrap (a:Int)=a:=jl (by omega) (by omega)
   have w2:afo.wrap (R.k:Int)=R.k:=jl (by omega) (by omega)
   have g1:decide ((a:Int)≥(R.k:Int))=true:=by simp;omega
   have hz:(bJ (o++[t])).getD a 0=0:=by rw[cb,List.getElem?_eq_none (by omega)];rfl
   have hd:decide (a<(o++[t]).length)=false:=by simp;omega
   simp only[zi,mJ,aC.ok,aF,w1,w2,g1,hz,hd,afn,false_implies,true_implies,and_true]
   unfold nW
   refine⟨fun h2=> ?_,fun h2=> ?_⟩
   · rw[if_neg (by simp at h2;simp[h2])];rfl
   · rw[if_pos (.inr (.inl (by simpa using h2)))];rfl
end
section
variable {X:Lx} {R R1 R2 R3 R4 R5 R6 R7:Rw}
theorem Q7 {P Q q:Int} (h1:cT X 117 [sI .i64 P,sI .i64 q] R R1) (h2:cT X 118 [sI .i64 Q,sI .i64 q] R1 R2):cT X 121 [.agg [sI .i64 P,sI .i64 Q],sI .i64 q] R R2:=by
 refine af aM (QY X R R1 R2 R R R R R P Q q) ?_
 simp only[Jw,aC.ok,aF]
 exact⟨h1,h2,trivial⟩
theorem Q8 {op q tk tl:Int} {is:Bool} (h0:an ab5 env 147 [sI .i64 op] [] (.aA [sI .i64 tk,sI .i64 tl,sB is]) []) (h1:cT X 117 [sI .i64 tk,sI .i64 q] R R1) (h2:cT X 118 [sI .i64 tl,sI .i64 q] R1 R2) :
  cT X 137 [sI .i64 op,sI .i64 q] R R2:=by
 refine af aM (QZ X R R1 R2 R R R R R op q tk tl is) ?_
 simp only[Jx,aC.ok,aF]
 exact⟨h0,h1,h2,trivial⟩
variable {op r a b nn q:Int} {tg:List Int} {ll le:List Ins}
theorem Q9 (h:cT X 114 [sI .i64 q] R R1):cT X 106 [dR 0 r a b nn tg ll le,sI .i64 q] R R1:=by
 refine af aM (iW X R R1 R R R R R R 0 r a b nn tg ll le q 0 0 0 true) ?_
 simp only[jv,eO,eP,fk,aC.ok,aF,afW,oR,oE,afn,false_implies,true_implies,true_and,and_true]
 exact h
theorem oI (ho:op=2∨op=3∨op=4) (h:cT X 115 [dR op r a b nn tg ll le,sI .i64 q] R R1):cT X 106 [dR op r a b nn tg ll le,sI .i64 q] R R1:=by
 refine af aM (iW X R R1 R R R R R R op r a b nn tg ll le q 0 0 0 true) ?_
 rcases ho with rfl | rfl | rfl <;>
 · simp only[jv,eO,eP,fk,aC.ok,aF,afW,oR,oE,afn,false_implies,true_implies,true_and,and_true]
   exact h
theorem Ra {v:Int} (h1:Ask X 116 [sI .u32 a,sI .i64 q] (sI .i64 v) R R1) (h2:cT X 117 [sI .i64 v,sI .i64 q] R1 R2) (h3:cT X 114 [sI .i64 q] R2 R3):cT X 106 [dR 12 r a b nn tg ll le,sI .i64 q] R R3:=by
 refine af aM (iW X R R1 R2 R3 R R R R 12 r a b nn tg ll le q v 0 0 true) ?_
 simp only[jv,eO,eP,fk,aC.ok,aF,afW,oR,oE,afn,false_implies,true_implies,true_and,and_true]
 exact⟨h1,h2,h3⟩
theorem Fp {v:Int} (h1:Ask X 116 [sI .u32 a,sI .i64 q] (sI .i64 v) R R1) (h2:cT X 117 [sI .i64 1,sI .i64 q] R1 R2) (h3:cT X 117 [sI .i64 v,sI .i64 q] R2 R3) (h4:cT X 118 [sI .i64 v,sI .i64 q] R3 R4):cT X 106 [dR 13 r a b nn tg ll le,sI .i64 q] R R4:=by
 refine af aM (iW X R R1 R2 R3 R4 R R R 13 r a b nn tg ll le q v 0 0 true) ?_
 simp only[jv,eO,eP,fk,aC.ok,aF,afW,oR,oE,afn,false_implies,true_implies,true_and,and_true]
 exact⟨h1,h2,h3,h4⟩
theorem LQ (h:cT X 119 [dR 14 r a b nn tg ll le,sI .i64 q] R R1):cT X 106 [dR 14 r a b nn tg ll le,sI .i64 q] R R1:=by
 refine af aM (iW X R R1 R R R R R R 14 r a b nn tg ll le q 0 0 0 true) ?_
 simp only[jv,eO,eP,fk,aC.ok,aF,afW,oR,oE,afn,false_implies,true_implies,true_and,and_true]
 exact h
theorem Vd (h1:cT X 117 [sI .i64 X.tR,sI .i64 q] R R1) (h2:cT X 114 [sI .i64 q] R1 R2):cT X 106 [dR 15 r a b nn tg ll le,sI .i64 q] R R2:=by
 refine af aM (iW X R R1 R2 R R R R R 15 r a b nn tg ll le q 0 0 0 true) ?_
 simp only[jv,eO,eP,fk,aC.ok,aF,afW,oR,oE,afn,false_implies,true_implies,true_and,and_true]
 exact⟨h1,h2⟩
theorem Fq {P Q:Int} {is:Bool} (h0:an ab5 env 42 [.agg X.M.cells,sI .u32 a] [] (.aA [.agg [sI .i64 P,sI .i64 Q],sB is]) []) (h1:Ask X 120 [sB is,sI .i64 6,sI .i64 q] (.aA []) R R1) (h2:cT X 121 [.agg [sI .i64 P,sI .i64 Q],sI .i64 q] R1 R2) :
  cT X 106 [dR 16 r a b nn tg ll le,sI .i64 q] R R2:=by
 refine af aM (iW X R R R1 R2 R R R R 16 r a b nn tg ll le q 0 P Q is) ?_
 simp only[jv,eO,eP,fk,aC.ok,aF,afW,oR,oE,afn,false_implies,true_implies,true_and,and_true]
 exact⟨h0,h1,h2⟩
theorem LR (ho:op≠0∧op≠2∧op≠3∧op≠4∧op≠12∧op≠13∧op≠14∧op≠15∧op≠16∧op≠17) (h:cT X 122 [dR op r a b nn tg ll le,sI .i64 q] R R1):cT X 106 [dR op r a b nn tg ll le,sI .i64 q] R R1:=by
 refine af aM (iW X R R1 R R R R R R op r a b nn tg ll le q 0 0 0 true) ?_
 obtain⟨k0,k1,k2,k3,k4,k5,k6,k7,k8,k9⟩:=ho
 have e0:(op==0)=false:=by simpa using k0
 have e1:(op==2)=false:=by simpa using k1
 have e2:(op==3)=false:=by simpa using k2
 have e3:(op==4)=false:=by simpa using k3
 have e4:(op==12)=false:=by simpa using k4
 have e5:(op==13)=false:=by simpa using k5
 have e6:(op==14)=false:=by simpa using k6
 have e7:(op==15)=false:=by simpa using k7
 have e8:(op==16)=false:=by simpa using k8
 have e9:(op==17)=false:=by simpa using k9
 simp only[jv,eO,eP,fk,aC.ok,aF,e0,e1,e2,e3,e4,e5,e6,e7,e8,e9,oR,oE,afn,false_implies,true_implies,true_and,and_true]
 exact h
theorem Ft {P Q:Int} (ht:0<X.M.sy) (hn:X.M.mZ≤1000000000) (ha:0≤a∧a<4294967296) (hc:a<X.M.mZ→X.M.tJ.getD (a.toNat*2) .bK = .sc (.int .i64 P)∧X.M.tJ.getD (a.toNat*2+1) .bK = .sc (.int .i64 Q))
  (h1:Ask X 120 [sB (decide (a<X.M.mZ)),sI .i64 6,sI .i64 q] (.aA []) R R1) (h2:cT X 117 [sI .i64 1,sI .i64 q] R1 R2) (h3:a<X.M.mZ→cT X 121 [.agg [sI .i64 P,sI .i64 Q],sI .i64 q] R2 R3) (h4 : ¬a<X.M.mZ→R3=R2) :
  cT X 106 [dR 17 r a b nn tg ll le,sI .i64 q] R R3:=by
 refine an.gK (rows:=[(106,110,sB true),(106,140,.agg [sI .i64 P,sI .i64 Q])]) ?_
 refine af aM (Q0 X R R1 R2 R3 R R R R 17 r a b nn tg ll le q 0 P Q true) ?_
 have w1:afo.wrap a=a:=jl (by omega) (by omega)
 have w2:afo.wrap (X.M.mZ:Int)=X.M.mZ:=jl (by omega) (by omega)
 have g1:decide ((X.M.sy:Int)>0)=true:=by simp;omega
 simp only[Jy,bN,aC.ok,aF,afW,oR,w1,w2,g1,dX,dD,aeU,true_and,and_true]
 refine⟨an.eF h1,an.eF h2,fun h=> ?_,fun h=> ?_⟩
 · have h:=of_decide_eq_true h
   obtain⟨c0,c1⟩:=hc h
   simp only[c0,c1,isInt,az,ik,dy,jG,oL,J9,BT,bp,decide_true,aeU,ch,decide_eq_true_eq]
   refine⟨?_,?_⟩
   · exact⟨by omega,by omega⟩
   · exact an.eF (h3 h)
 · have h:=of_decide_eq_false h
   rw[h4 h]
theorem Rb (ht:X.M.sy=0) (h1:Ask X 120 [sB false,sI .i64 6,sI .i64 q] (.aA []) R R1) (h2:cT X 117 [sI .i64 1,sI .i64 q] R1 R2) :
  cT X 106 [dR 17 r a b nn tg ll le,sI .i64 q] R R2:=by
 refine an.gK (rows:=[(106,110,sB false)]) ?_
 refine af aM (Q1 X R R1 R2 R R R R R 17 r a b nn tg ll le q 0 0 0 true) ?_
 have g1:decide ((X.M.sy:Int)>0)=false:=by simp;omega
 simp only[Jz,aC.ok,aF,afW,oR,g1,dX,dD,aeU,true_and,and_true]
 exact⟨an.eF h1,an.eF h2⟩
theorem Z9 (ho:op≠4) (h1:cT X 131 [sI .i64 op,sI .i64 r,sI .i64 q] R R1) (h2:cT X 90 [aL ll] R1 R2) (h3:cT X 91 [sI .i64 q] R2 R3):cT X 115 [dR op r a b nn tg ll le,sI .i64 q] R R3:=by
 refine af aM (Q2 X R R1 R2 R3 R R R R op r a b nn tg ll le q) ?_
 have e0:(op != 4)=true:=by simpa using ho
 simp only[JA,aC.ok,aF,e0,true_and,and_true]
 exact⟨h1,h2,h3⟩
theorem aaa (hE:R4.e≠0) (h1:cT X 117 [sI .i64 1,sI .i64 q] R R1) (h2:cT X 131 [sI .i64 4,sI .i64 r,sI .i64 q] R1 R2) (h3:cT X 90 [aL ll] R2 R3) (h4:cT X 91 [sI .i64 q] R3 R4):cT X 115 [dR 4 r a b nn tg ll le,sI .i64 q] R R4:=by
 refine af aM (Q3 X R R1 R2 R3 R4 R R R r a b nn tg ll le q) ?_
 have e0:(R4.e != 0)=true:=by simpa using hE
 simp only[JB,aC.ok,aF,e0,true_and,and_true,true_implies,afn,false_implies]
 exact⟨h1,h2,h3,h4⟩
theorem Rc (h1:cT X 117 [sI .i64 1,sI .i64 q] R R1)
  (h2:an ab5 env 131 [.mp 0 0,sI .i64 4,sI .i64 r,sI .i64 q] (eK X R1) (.aA []) [bf X.M X.tP X.tR X.own R2.h 2 R2.k R2.e R2.p R2.nx,dj R1.cs,dj R2.cs]) (h3:cT X 90 [aL ll] R2 R3) (h4:cT X 91 [sI .i64 q] R3 R4)
  (hE:R4.e≠0→R7=R4) (h5:R4.e=0→cT X 131 [sI .i64 5,sI .i64 r,sI .i64 q] ⟨R1.h,R1.k,R1.cs,R4.e,R4.p,R4.nx⟩ R5) (h6:R4.e=0→cT X 90 [aL le] R5 R6) (h7:R4.e=0→cT X 91 [sI .i64 q] R6 R7) :
  cT X 115 [dR 4 r a b nn tg ll le,sI .i64 q] R R7:=by
 refine af aM (Q4 X R R1 R2 R3 R4 R5 R6 R7 r a b nn tg ll le q) ?_
 simp only[JC,aC.ok,aF]
 refine⟨h1,h2,h3,h4,fun h=> ?_,fun h=> ?_⟩
 · rw[hE (by simpa using h)]
 · have h:R4.e=0:=by simpa using h
   exact⟨h5 h,h6 h,h7 h,trivial⟩
end
end Go.Proofs.YtjfgfhaoeicpdaaGreatDoor.N
end
