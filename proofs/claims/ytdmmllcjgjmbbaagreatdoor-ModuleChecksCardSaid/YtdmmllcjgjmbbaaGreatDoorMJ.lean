/-
One instruction: its operation's name, what the operation uses, whether it may be, as the program and as the document say.
One instruction: whether it may be, as the document says.
The document's check of instructions: what its parts tell, of any instructions.
-/
import Derived.Test.YtdmmllcjgjmbbaaGreatDoorMI
section
namespace Go.Proofs.YtdmmllcjgjmbbaaGreatDoor.N
open Go Go.Am
def aav (f:FuncId) (_:List AV) (_:Mem):Option (AV×Mem):=cond (Nat.beq f 170) (some (.agg (JZ.map fun s=> .p (.sc (.string s))),[])) none
def aaw (op:Int):FuncId→Nat→Nat→Option (AV→AV):=dw [(149,4,2,.p (.sc (.string (JZ.getD op.toNat ⟨#[]⟩))))]
def aax (_op:Int) (n:Int) (st:Bool) (f:FuncId) (_:List AV) (_:Mem):Option (AV×Mem):=cond (Nat.beq f 162) (some (.aS [sI .u32 n,sB st],[])) none
def aay (_op _r _a _b _nn:Int) (_tg:List Int) (_ll _le:List Ins) (s:ByteArray) (u1 u2 u3 u4 u5 u6:Bool) (f:FuncId) (_:List AV) (_:Mem):Option (AV×Mem):=cond (Nat.beq f 149) (some (.p (.sc (.string s)),[])) (cond (Nat.beq f 148) (some (.agg [sB u1,sB u2,sB u3,sB u4,sB u5,sB u6],[])) none)
noncomputable def Sr (op:Int):bu:=kM aav az [] [(149,2,3),(149,0,0)] [(149,4,2)] (aaw op)
def Xf:Sc:=(.fork (.lit .fin) .fin)
noncomputable def E6 (op:Int):Tree:=
 (.test (decide (op<0))
 (.out (.ret (.p (.sc (.string (ByteArray.mk #[])))) []))
 (.test (decide (op≥256))
 (.out (.ret (.p (.sc (.string (ByteArray.mk #[])))) []))
 (.call ⟨170,[],[],.agg (JZ.map fun s=> .p (.sc (.string s))),[]⟩
 (.must (aG op 256&&(op.toNat*1).blt 256&&true)
 (.need ((JZ.map fun s=>AV.p (PV.sc (.string s))).getD (op.toNat*1) AV.an=AV.p (PV.sc (Value.string (JZ.getD op.toNat (ByteArray.mk #[])))))
 (.out (.ret (.p (.sc (.string (JZ.getD op.toNat (ByteArray.mk #[]))))) [])))))))
theorem J0 (op:Int):aR Tryz.prog env (Sr op) 1000000 149 ([sI IntKind.i64 op]) ([]) Xf=E6 op:=by kernel_rfl
noncomputable def Ss:bu:=aK av az [] [(162,0,0),(162,0,1),(162,0,2),(162,0,4),(162,0,3),(162,0,5),(162,0,7),(162,0,6)] []
def Xg:Sc:=(.fork (.yes .fin) (.fork .fin (.fork (.yes .fin) (.fork (.yes .fin) (.fork .fin (.fork (.yes .fin) (.fork (.yes .fin) .fin)))))))
noncomputable def E7 (op:Int):Tree:=
 (.test (op==40)
 (.must (op==40)
 (.out (.ret (.aS [sI .u32 2,sB true]) [])))
 (.test (op==54)
 (.out (.ret (.aS [sI .u32 2,sB true]) []))
 (.test (op==46)
 (.must (op==46)
 (.out (.ret (.aS [sI .u32 1,sB true]) [])))
 (.test (op==47)
 (.must (op==47)
 (.out (.ret (.aS [sI .u32 1,sB true]) [])))
 (.test (op==59)
 (.out (.ret (.aS [sI .u32 1,sB true]) []))
 (.test (op==44)
 (.must (op==44)
 (.out (.ret (.aS [sI .u32 0,sB true]) [])))
 (.test (op==45)
 (.must (op==45)
 (.out (.ret (.aS [sI .u32 0,sB true]) [])))
 (.test (op==58)
 (.out (.ret (.aS [sI .u32 0,sB true]) []))
 (.out (.ret (.aS [sI .u32 0,sB false]) []))))))))))
theorem J1 (op:Int):aR Tryz.prog env Ss 1000000 162 ([sI IntKind.i64 op]) ([]) Xg=E7 op:=by kernel_rfl
noncomputable def Su:bu:=aK av az [] [(167,0,0),(167,0,1),(167,0,2),(167,0,4),(167,0,3),(167,0,5),(167,0,7),(167,0,6)] []
def Xh:Sc:=(.fork (.yes .fin) (.fork .fin (.fork (.yes .fin) (.fork (.yes .fin) (.fork .fin (.fork (.yes .fin) (.fork (.yes .fin) .fin)))))))
noncomputable def E8 (op:Int):Tree:=
 (.test (op==40)
 (.must (op==40)
 (.out (.ret (.aS [sI .u32 2,sB true]) [])))
 (.test (op==54)
 (.out (.ret (.aS [sI .u32 2,sB true]) []))
 (.test (op==46)
 (.must (op==46)
 (.out (.ret (.aS [sI .u32 1,sB true]) [])))
 (.test (op==47)
 (.must (op==47)
 (.out (.ret (.aS [sI .u32 1,sB true]) [])))
 (.test (op==59)
 (.out (.ret (.aS [sI .u32 1,sB true]) []))
 (.test (op==44)
 (.must (op==44)
 (.out (.ret (.aS [sI .u32 0,sB true]) [])))
 (.test (op==45)
 (.must (op==45)
 (.out (.ret (.aS [sI .u32 0,sB true]) [])))
 (.test (op==58)
 (.out (.ret (.aS [sI .u32 0,sB true]) []))
 (.out (.ret (.aS [sI .u32 0,sB false]) []))))))))))
theorem J2 (op:Int):aR Tryz.prog env Su 1000000 167 ([sI IntKind.i64 op]) ([]) Xh=E8 op:=by kernel_rfl
noncomputable def Sv:bu:=aK av az [] [(180,2,3),(180,2,7)] []
def Xi:Sc:=(.fork (.lit .fin) .fin)
noncomputable def E9 (op:Int):Tree:=
 (.test (op==2)
 (.out (.ret (sB true) []))
 (.test (op==3)
 (.out (.ret (sB true) []))
 (.out (.ret (.p (.sc (.bool (op==4)))) []))))
theorem J3 (op:Int):aR Tryz.prog env Sv 1000000 180 ([sI IntKind.i64 op]) ([]) Xi=E9 op:=by kernel_rfl
noncomputable def Sw:bu:=aK av az [] [(181,2,3),(181,2,7),(181,2,11),(181,2,15),(181,2,18)] []
def Xj:Sc:=(.fork (.lit (.lit (.lit .fin))) (.fork (.lit (.lit .fin)) (.fork (.lit .fin) .fin)))
noncomputable def Fa (op:Int):Tree:=
 (.test (op==12)
 (.out (.ret (sB true) []))
 (.test (op==13)
 (.out (.ret (sB true) []))
 (.test (op==16)
 (.out (.ret (sB true) []))
 (.test (op==17)
 (.out (.ret (sB true) []))
 (.test (decide (op≥32))
 (.out (.ret (.p (.sc (.bool (decide (op≤36))))) []))
 (.out (.ret (sB false) [])))))))
theorem J4 (op:Int):aR Tryz.prog env Sw 1000000 181 ([sI IntKind.i64 op]) ([]) Xj=Fa op:=by kernel_rfl
noncomputable def Sx (op n:Int) (st:Bool):bu:=aK (aax op n st) az [] [(148,0,0),(148,0,1),(148,0,2),(148,0,3),(148,0,4),(148,0,12),(148,0,5),(148,0,6),(148,0,7),(148,0,8),(148,0,9),(148,0,10),(148,0,11),(148,0,13),(148,0,14)] []
def Xk:Sc:=(.fork .fin (.fork (.yes .fin) (.fork .fin (.fork .fin (.fork (.yes .fin) (.fork (.yes .fin) (.fork (.yes .fin) (.fork (.yes .fin) (.fork (.yes .fin) (.fork (.yes .fin) (.fork (.yes .fin) (.fork (.yes .fin) .fin))))))))))))
noncomputable def Fb (op n:Int) (st:Bool):Tree:=
 (.call ⟨162,[sI .i64 op],[],.aS [sI .u32 n,.p (.sc (.bool st))],[]⟩
 (.test (st)
 (.out (.ret (.agg [sB false,sB false,sB true,sB true,sB false,sB false]) []))
 (.test (op==2)
 (.must (op==2)
 (.out (.ret (.agg [sB true,sB false,sB false,sB false,sB false,sB false]) [])))
 (.test (op==3)
 (.out (.ret (.agg [sB true,sB false,sB false,sB false,sB false,sB false]) []))
 (.test (op==4)
 (.out (.ret (.agg [sB true,sB true,sB false,sB false,sB false,sB false]) []))
 (.test (op==12)
 (.must (op==12)
 (.out (.ret (.agg [sB false,sB false,sB true,sB false,sB false,sB false]) [])))
 (.test (op==13)
 (.must (op==13)
 (.out (.ret (.agg [sB false,sB false,sB true,sB false,sB false,sB false]) [])))
 (.test (op==16)
 (.must (op==16)
 (.out (.ret (.agg [sB false,sB false,sB true,sB false,sB false,sB false]) [])))
 (.test (op==17)
 (.must (op==17)
 (.out (.ret (.agg [sB false,sB false,sB true,sB false,sB false,sB false]) [])))
 (.test (op==32)
 (.must (op==32)
 (.out (.ret (.agg [sB false,sB false,sB true,sB false,sB false,sB false]) [])))
 (.test (op==33)
 (.must (op==33)
 (.out (.ret (.agg [sB false,sB false,sB true,sB false,sB false,sB false]) [])))
 (.test (op==34)
 (.must (op==34)
 (.out (.ret (.agg [sB false,sB false,sB true,sB false,sB false,sB false]) [])))
 (.test (op==35)
 (.must (op==35)
 (.out (.ret (.agg [sB false,sB false,sB true,sB false,sB false,sB false]) [])))
 (.test (op==36)
 (.out (.ret (.agg [sB false,sB false,sB true,sB false,sB false,sB false]) []))
 (.test (op==14)
 (.out (.ret (.agg [sB false,sB false,sB true,sB false,sB false,sB true]) []))
 (.test (op==65)
 (.out (.ret (.agg [sB false,sB false,sB false,sB false,sB true,sB false]) []))
 (.out (.ret (.agg [sB false,sB false,sB false,sB false,sB false,sB false]) []))))))))))))))))))
theorem J5 (op n:Int) (st:Bool):aR Tryz.prog env (Sx op n st) 1000000 148 ([sI IntKind.i64 op]) ([]) Xk=Fb op n st:=by kernel_rfl
noncomputable def Sy (op r a b nn:Int) (tg:List Int) (ll:List Ins) (le:List Ins) (s:ByteArray) (u1:Bool) (u2:Bool) (u3:Bool) (u4:Bool) (u5:Bool) (u6:Bool):bu:=aK (aay op r a b nn tg ll le s u1 u2 u3 u4 u5 u6) az [] [(125,0,0),(125,0,3),(125,4,4),(125,0,1),(125,5,4),(125,5,8),(125,0,2),(125,6,4),(125,8,3),(125,8,11),(125,8,20),(125,8,29),(125,8,26),(125,8,17),(125,8,8)] []
def Xl:Sc:=(.fork (.yes .fin) (.fork (.lit (.lit .fin)) (.fork (.yes .fin) (.fork (.fork (.lit (.lit .fin)) (.fork (.yes .fin) (.fork (.fork .fin (.fork (.lit (.fork (.lit (.fork (.lit .fin) .fin)) (.fork (.fork (.lit .fin) .fin) (.lit .fin)))) (.fork (.fork (.lit (.fork (.lit .fin) .fin)) (.fork (.fork (.lit .fin) .fin) (.lit .fin))) (.lit (.lit .fin))))) (.lit (.fork (.lit (.fork (.lit (.fork (.lit .fin) .fin)) (.fork (.fork (.lit .fin) .fin) (.lit .fin)))) (.fork (.fork (.lit (.fork (.lit .fin) .fin)) (.fork (.fork (.lit .fin) .fin) (.lit .fin))) (.lit (.lit .fin)))))))) (.lit (.fork (.fork .fin (.fork (.lit (.fork (.lit (.fork (.lit .fin) .fin)) (.fork (.fork (.lit .fin) .fin) (.lit .fin)))) (.fork (.fork (.lit (.fork (.lit .fin) .fin)) (.fork (.fork (.lit .fin) .fin) (.lit .fin))) (.lit (.lit .fin))))) (.lit (.fork (.lit (.fork (.lit (.fork (.lit .fin) .fin)) (.fork (.fork (.lit .fin) .fin) (.lit .fin)))) (.fork (.fork (.lit (.fork (.lit .fin) .fin)) (.fork (.fork (.lit .fin) .fin) (.lit .fin))) (.lit (.lit .fin)))))))))))
noncomputable def Fc (op r a b nn:Int) (tg:List Int) (ll:List Ins) (le:List Ins) (s:ByteArray) (u1:Bool) (u2:Bool) (u3:Bool) (u4:Bool) (u5:Bool) (u6:Bool):Tree:=
 (.call ⟨148,[sI .i64 op],[],.agg [.p (.sc (.bool u1)),.p (.sc (.bool u2)),.p (.sc (.bool u3)),.p (.sc (.bool u4)),.p (.sc (.bool u5)),.p (.sc (.bool u6))],[]⟩
 (.call ⟨149,[sI .i64 op],[],.p (.sc (.string s)),[]⟩
 (.test (s.data.toList==(ByteArray.mk #[]).data.toList)
 (.must (s.data.toList==(ByteArray.mk #[]).data.toList)
 (.out (.ret (sB false) [])))
 (.test (decide (r<0))
 (.out (.ret (sB false) []))
 (.test (decide (r>1))
 (.must (decide (r>1))
 (.out (.ret (sB false) [])))
 (.test (!u1)
 (.test (r != 0)
 (.out (.ret (sB false) []))
 (.test (decide ((↑ll.length:Int)>0))
 (.must (decide ((↑ll.length:Int)>0))
 (.out (.ret (sB false) [])))
 (.test (!u2)
 (.test (decide ((↑le.length:Int)>0))
 (.out (.ret (sB false) []))
 (.test (u3)
 (.test (u4)
 (.test (u5)
 (.test (u6)
 (.out (.ret (sB true) []))
 (.out (.ret (.p (.sc (.bool ((↑tg.length:Int)==0)))) [])))
 (.test (nn==0)
 (.test (u6)
 (.out (.ret (sB true) []))
 (.out (.ret (.p (.sc (.bool ((↑tg.length:Int)==0)))) [])))
 (.out (.ret (sB false) []))))
 (.test (b==0)
 (.test (u5)
 (.test (u6)
 (.out (.ret (sB true) []))
 (.out (.ret (.p (.sc (.bool ((↑tg.length:Int)==0)))) [])))
 (.test (nn==0)
 (.test (u6)
 (.out (.ret (sB true) []))
 (.out (.ret (.p (.sc (.bool ((↑tg.length:Int)==0)))) [])))
 (.out (.ret (sB false) []))))
 (.out (.ret (sB false) []))))
 (.test (a==0)
 (.test (u4)
 (.test (u5)
 (.test (u6)
 (.out (.ret (sB true) []))
 (.out (.ret (.p (.sc (.bool ((↑tg.length:Int)==0)))) [])))
 (.test (nn==0)
 (.test (u6)
 (.out (.ret (sB true) []))
 (.out (.ret (.p (.sc (.bool ((↑tg.length:Int)==0)))) [])))
 (.out (.ret (sB false) []))))
 (.test (b==0)
 (.test (u5)
 (.test (u6)
 (.out (.ret (sB true) []))
 (.out (.ret (.p (.sc (.bool ((↑tg.length:Int)==0)))) [])))
 (.test (nn==0)
 (.test (u6)
 (.out (.ret (sB true) []))
 (.out (.ret (.p (.sc (.bool ((↑tg.length:Int)==0)))) [])))
 (.out (.ret (sB false) []))))
 (.out (.ret (sB false) []))))
 (.out (.ret (sB false) [])))))
 (.test (u3)
 (.test (u4)
 (.test (u5)
 (.test (u6)
 (.out (.ret (sB true) []))
 (.out (.ret (.p (.sc (.bool ((↑tg.length:Int)==0)))) [])))
 (.test (nn==0)
 (.test (u6)
 (.out (.ret (sB true) []))
 (.out (.ret (.p (.sc (.bool ((↑tg.length:Int)==0)))) [])))
 (.out (.ret (sB false) []))))
 (.test (b==0)
 (.test (u5)
 (.test (u6)
 (.out (.ret (sB true) []))
 (.out (.ret (.p (.sc (.bool ((↑tg.length:Int)==0)))) [])))
 (.test (nn==0)
 (.test (u6)
 (.out (.ret (sB true) []))
 (.out (.ret (.p (.sc (.bool ((↑tg.length:Int)==0)))) [])))
 (.out (.ret (sB false) []))))
 (.out (.ret (sB false) []))))
 (.test (a==0)
 (.test (u4)
 (.test (u5)
 (.test (u6)
 (.out (.ret (sB true) []))
 (.out (.ret (.p (.sc (.bool ((↑tg.length:Int)==0)))) [])))
 (.test (nn==0)
 (.test (u6)
 (.out (.ret (sB true) []))
 (.out (.ret (.p (.sc (.bool ((↑tg.length:Int)==0)))) [])))
 (.out (.ret (sB false) []))))
 (.test (b==0)
 (.test (u5)
 (.test (u6)
 (.out (.ret (sB true) []))
 (.out (.ret (.p (.sc (.bool ((↑tg.length:Int)==0)))) [])))
 (.test (nn==0)
 (.test (u6)
 (.out (.ret (sB true) []))
 (.out (.ret (.p (.sc (.bool ((↑tg.length:Int)==0)))) [])))
 (.out (.ret (sB false) []))))
 (.out (.ret (sB false) []))))
 (.out (.ret (sB false) [])))))))
 (.test (!u2)
 (.test (decide ((↑le.length:Int)>0))
 (.out (.ret (sB false) []))
 (.test (u3)
 (.test (u4)
 (.test (u5)
 (.test (u6)
 (.out (.ret (sB true) []))
 (.out (.ret (.p (.sc (.bool ((↑tg.length:Int)==0)))) [])))
 (.test (nn==0)
 (.test (u6)
 (.out (.ret (sB true) []))
 (.out (.ret (.p (.sc (.bool ((↑tg.length:Int)==0)))) [])))
 (.out (.ret (sB false) []))))
 (.test (b==0)
 (.test (u5)
 (.test (u6)
 (.out (.ret (sB true) []))
 (.out (.ret (.p (.sc (.bool ((↑tg.length:Int)==0)))) [])))
 (.test (nn==0)
 (.test (u6)
 (.out (.ret (sB true) []))
 (.out (.ret (.p (.sc (.bool ((↑tg.length:Int)==0)))) [])))
 (.out (.ret (sB false) []))))
 (.out (.ret (sB false) []))))
 (.test (a==0)
 (.test (u4)
 (.test (u5)
 (.test (u6)
 (.out (.ret (sB true) []))
 (.out (.ret (.p (.sc (.bool ((↑tg.length:Int)==0)))) [])))
 (.test (nn==0)
 (.test (u6)
 (.out (.ret (sB true) []))
 (.out (.ret (.p (.sc (.bool ((↑tg.length:Int)==0)))) [])))
 (.out (.ret (sB false) []))))
 (.test (b==0)
 (.test (u5)
 (.test (u6)
 (.out (.ret (sB true) []))
 (.out (.ret (.p (.sc (.bool ((↑tg.length:Int)==0)))) [])))
 (.test (nn==0)
 (.test (u6)
 (.out (.ret (sB true) []))
 (.out (.ret (.p (.sc (.bool ((↑tg.length:Int)==0)))) [])))
 (.out (.ret (sB false) []))))
 (.out (.ret (sB false) []))))
 (.out (.ret (sB false) [])))))
 (.test (u3)
 (.test (u4)
 (.test (u5)
 (.test (u6)
 (.out (.ret (sB true) []))
 (.out (.ret (.p (.sc (.bool ((↑tg.length:Int)==0)))) [])))
 (.test (nn==0)
 (.test (u6)
 (.out (.ret (sB true) []))
 (.out (.ret (.p (.sc (.bool ((↑tg.length:Int)==0)))) [])))
 (.out (.ret (sB false) []))))
 (.test (b==0)
 (.test (u5)
 (.test (u6)
 (.out (.ret (sB true) []))
 (.out (.ret (.p (.sc (.bool ((↑tg.length:Int)==0)))) [])))
 (.test (nn==0)
 (.test (u6)
 (.out (.ret (sB true) []))
 (.out (.ret (.p (.sc (.bool ((↑tg.length:Int)==0)))) [])))
 (.out (.ret (sB false) []))))
 (.out (.ret (sB false) []))))
 (.test (a==0)
 (.test (u4)
 (.test (u5)
 (.test (u6)
 (.out (.ret (sB true) []))
 (.out (.ret (.p (.sc (.bool ((↑tg.length:Int)==0)))) [])))
 (.test (nn==0)
 (.test (u6)
 (.out (.ret (sB true) []))
 (.out (.ret (.p (.sc (.bool ((↑tg.length:Int)==0)))) [])))
 (.out (.ret (sB false) []))))
 (.test (b==0)
 (.test (u5)
 (.test (u6)
 (.out (.ret (sB true) []))
 (.out (.ret (.p (.sc (.bool ((↑tg.length:Int)==0)))) [])))
 (.test (nn==0)
 (.test (u6)
 (.out (.ret (sB true) []))
 (.out (.ret (.p (.sc (.bool ((↑tg.length:Int)==0)))) [])))
 (.out (.ret (sB false) []))))
 (.out (.ret (sB false) []))))
 (.out (.ret (sB false) [])))))))))))
theorem J6 (op r a b nn:Int) (tg:List Int) (ll:List Ins) (le:List Ins) (s:ByteArray) (u1:Bool) (u2:Bool) (u3:Bool) (u4:Bool) (u5:Bool) (u6:Bool):aR Tryz.prog env (Sy op r a b nn tg ll le s u1 u2 u3 u4 u5 u6) 1000000 125 ([rD op r a b nn tg ll le]) ([]) Xl=Fc op r a b nn tg ll le s u1 u2 u3 u4 u5 u6:=by kernel_rfl
def nm (op:Int):ByteArray:=if op<0∨256≤op then⟨#[]⟩ else JZ.getD op.toNat ⟨#[]⟩
theorem GX (op:Int):aC Tryz.prog env 149 [sI .i64 op] [] (.p (.sc (.string (nm op)))) []:=by
 refine ah names (J0 op) ?_
 simp only[E6,Tree.ok,decide_eq_true_eq,decide_eq_false_iff_not]
 have hlen:(JZ.map fun s=>(AV.p (PV.sc (.string s)))).length=256:=by kernel_rfl
 refine⟨fun h=> ?_,fun h=>⟨fun h2=> ?_,fun h2=>⟨Sq,?_,?_,?_⟩⟩⟩
 · rw[nm,if_pos (.inl h)]
 · rw[nm,if_pos (.inr h2)]
 · simp[aG];omega
 · have hl:op.toNat<(JZ.map fun s=>(AV.p (PV.sc (.string s)))).length:=by rw[hlen];omega
   rw[Nat.mul_one,List.getD_eq_getElem?_getD,List.getElem?_eq_getElem hl,Option.getD_some,List.getElem_map,List.getD_eq_getElem?_getD,List.getElem?_eq_getElem (by simpa using hl),Option.getD_some]
 · rw[nm,if_neg (by omega)]
def oO (op:Int):Bool:=decide (op=40∨op=44∨op=45∨op=46∨op=47∨op=54∨op=58∨op=59)
def uD (op:Int):Int:=if op=40∨op=54 then 2 else if op=46∨op=47∨op=59 then 1 else 0
def DU (op:Int):Bool:=decide (op=2∨op=3∨op=4)
def DV (op:Int):Bool:=decide (op=12∨op=13∨op=16∨op=17∨(32≤op∧op≤36))
theorem DW (op:Int):aC Tryz.prog env 162 [sI .i64 op] [] (.aS [sI .u32 (uD op),sB (oO op)]) []:=by
 refine ah names (J1 op) ?_
 simp only[E7,Tree.ok,beq_iff_eq,beq_eq_false_iff_ne]
 repeat' first | apply And.intro | (intro h)
 all_goals first | assumption | (simp only[uD,oO];simp_all;done)
theorem BV (op:Int):aC Tryz.prog env 167 [sI .i64 op] [] (.aS [sI .u32 (uD op),sB (oO op)]) []:=by
 refine ah names (J2 op) ?_
 simp only[E8,Tree.ok,beq_iff_eq,beq_eq_false_iff_ne]
 repeat' first | apply And.intro | (intro h)
 all_goals first | assumption | (simp only[uD,oO];simp_all;done)
theorem DX (op:Int):aC Tryz.prog env 180 [sI .i64 op] [] (sB (DU op)) []:=by
 refine ah names (J3 op) ?_
 simp only[E9,Tree.ok,beq_iff_eq,beq_eq_false_iff_ne]
 repeat' first | apply And.intro | (intro h)
 all_goals (simp only[DU];congr 4;rw[Bool.eq_iff_iff];simp only[beq_iff_eq,decide_eq_true_eq,true_iff];omega)
theorem DY (op:Int):aC Tryz.prog env 181 [sI .i64 op] [] (sB (DV op)) []:=by
 refine ah names (J4 op) ?_
 simp only[Fa,Tree.ok,beq_iff_eq,beq_eq_false_iff_ne,decide_eq_true_eq,decide_eq_false_iff_not]
 repeat' first | apply And.intro | (intro h)
 all_goals (simp only[DV];congr 4;simp only[true_eq_decide_iff,false_eq_decide_iff,decide_eq_decide];omega)
def Xm (op:Int):AV:= .agg [sB (DU op),sB (decide (op=4)),sB (oO op||DV op||decide (op=14)),sB (oO op),sB (decide (op=65)),sB (decide (op=14))]
theorem Sz {op:Int} {x1 x2 x3 x4 x5 x6:Bool} (h1:x1=true↔DU op=true) (h2:x2=true↔op=4) (h3:x3=true↔oO op=true∨DV op=true∨op=14) (h4:x4=true↔oO op=true) (h5:x5=true↔op=65) (h6:x6=true↔op=14) :
  Out.ret (.agg [.p (.sc (.bool x1)),.p (.sc (.bool x2)),.p (.sc (.bool x3)),.p (.sc (.bool x4)),.p (.sc (.bool x5)),.p (.sc (.bool x6))]) []=Out.ret (Xm op) []:=by
 obtain rfl:x1=DU op:=Bool.eq_iff_iff.2 h1
 obtain rfl:x2=decide (op=4):=Bool.eq_iff_iff.2 (by rw[h2,decide_eq_true_eq])
 obtain rfl:x3=(oO op||DV op||decide (op=14)):=Bool.eq_iff_iff.2 (by rw[h3,Bool.or_eq_true,Bool.or_eq_true,decide_eq_true_eq,or_assoc])
 obtain rfl:x4=oO op:=Bool.eq_iff_iff.2 h4
 obtain rfl:x5=decide (op=65):=Bool.eq_iff_iff.2 (by rw[h5,decide_eq_true_eq])
 obtain rfl:x6=decide (op=14):=Bool.eq_iff_iff.2 (by rw[h6,decide_eq_true_eq])
 rfl
theorem BW {op:Int}:oO op=true↔(op=40∨op=44∨op=45∨op=46∨op=47∨op=54∨op=58∨op=59):=decide_eq_true_iff
theorem J7 {op:Int}:DU op=true↔(op=2∨op=3∨op=4):=decide_eq_true_iff
theorem J8 {op:Int}:DV op=true↔(op=12∨op=13∨op=16∨op=17∨(32≤op∧op≤36)):=decide_eq_true_iff
set_option maxHeartbeats 2000000 in
theorem GY (op:Int):aC Tryz.prog env 148 [sI .i64 op] [] (Xm op) []:=by
 refine ah names (J5 op (uD op) (oO op)) ?_
 simp only[Fb,Tree.ok,beq_iff_eq,beq_eq_false_iff_ne]
 refine⟨DW op,?_⟩
 rw[←Bool.not_eq_true,BW]
 repeat' first | apply And.intro | (intro h)
 all_goals first | assumption | (refine Sz ?_ ?_ ?_ ?_ ?_ ?_<;>simp only[BW,J7,J8,true_iff,Bool.false_eq_true,false_iff]<;>omega)
def rE (e0 u1 u2 u3 u4 u5 u6 e1 e2 e3 e4 e5 e6 e7 e8 e9:Bool):Bool:= !e0&&(!e1&&(!e2&&((u1 || !(e3||e4))&&((u2 || !e5)&&((u3||e6)&&((u4||e7)&&((u5||e8)&&(u6||e9))))))))
set_option maxHeartbeats 4000000 in
theorem SA (op r a b nn:Int) (tg:List Int) (ll le:List Ins) (s:ByteArray) (u1 u2 u3 u4 u5 u6:Bool) (h1:aC Tryz.prog env 148 [sI .i64 op] [] (.agg [sB u1,sB u2,sB u3,sB u4,sB u5,sB u6]) []) (h2:aC Tryz.prog env 149 [sI .i64 op] [] (.p (.sc (.string s))) []) :
  aC Tryz.prog env 125 [rD op r a b nn tg ll le] [] (sB (rE (s.data.toList==(ByteArray.mk #[]).data.toList) u1 u2 u3 u4 u5 u6 (decide (r<0)) (decide (r>1)) (r != 0) (decide ((ll.length:Int)>0)) (decide ((le.length:Int)>0)) (a==0) (b==0) (nn==0) ((tg.length:Int)==0))) []:=by
 refine ah names (J6 op r a b nn tg ll le s u1 u2 u3 u4 u5 u6) ?_
 simp only[Fc,Tree.ok]
 refine⟨h1,h2,?_⟩
 generalize (s.data.toList==(ByteArray.mk #[]).data.toList)=e0
 generalize decide (r<0)=e1
 generalize decide (r>1)=e2
 generalize (r != 0)=e3
 generalize decide ((ll.length:Int)>0)=e4
 generalize decide ((le.length:Int)>0)=e5
 generalize (a==0)=e6
 generalize (b==0)=e7
 generalize (nn==0)=e8
 generalize ((tg.length:Int)==0)=e9
 cases e0
 case true=>simp[rE]
 cases e1
 case true=>simp[rE]
 cases e2
 case true=>simp[rE]
 cases u1<;>cases e3<;>cases e4<;>(try (simp[rE];done))<;>cases u2<;>cases e5<;>(try (simp[rE];done))<;>cases u3<;>cases e6<;>(try (simp[rE];done))<;>cases u4<;>cases e7<;>(try (simp[rE];done))<;>cases u5<;>cases e8<;>(try (simp[rE];done))<;>cases u6<;>simp[rE]
end Go.Proofs.YtdmmllcjgjmbbaaGreatDoor.N
end
section
namespace Go.Proofs.YtdmmllcjgjmbbaaGreatDoor.N
open Go Go.Am
def aaz (_op _r _a _b _nn:Int) (_tg:List Int) (_ll _le:List Ins) (s:ByteArray) (n:Int) (st li wh:Bool) (f:FuncId) (_:List AV) (_:Mem):Option (AV×Mem):=cond (Nat.beq f 179) (some (.p (.sc (.string s)),[])) (cond (Nat.beq f 167) (some (.aS [sI .u32 n,sB st],[])) (cond (Nat.beq f 180) (some (sB li,[])) (cond (Nat.beq f 181) (some (sB wh,[])) none)))
noncomputable def SB (op r a b nn:Int) (tg:List Int) (ll:List Ins) (le:List Ins) (s:ByteArray) (n:Int) (st:Bool) (li:Bool) (wh:Bool):bu:=aK (aaz op r a b nn tg ll le s n st li wh) az [] [(169,3,5),(169,3,10),(169,3,15),(169,3,19),(169,3,26),(169,3,31),(169,3,38),(169,3,43),(169,0,0),(169,5,5),(169,5,10),(169,5,14),(169,5,20),(169,5,24),(169,0,1),(169,7,4),(169,7,7),(169,7,12)] []
def Xn:Sc:=(.fork (.lit (.lit (.lit (.lit (.lit .fin))))) (.fork (.lit (.lit (.lit (.lit .fin)))) (.fork (.lit (.lit (.lit .fin))) (.fork (.fork (.lit (.lit .fin)) (.fork (.no (.fork (.fork .fin (.fork (.yes (.lit (.lit .fin))) (.lit (.fork (.yes (.lit .fin)) (.lit (.fork (.fork .fin (.fork (.lit (.lit .fin)) (.yes (.lit .fin)))) (.lit (.fork (.lit (.lit .fin)) (.fork (.lit .fin) .fin))))))))) (.lit (.fork (.fork (.lit (.lit .fin)) (.fork (.yes (.lit .fin)) (.lit (.fork (.fork .fin (.fork (.lit (.lit .fin)) (.yes (.lit .fin)))) (.lit (.fork (.lit (.lit .fin)) (.fork (.lit .fin) .fin))))))) (.lit (.fork (.fork (.lit .fin) (.fork (.fork .fin (.fork (.lit (.lit .fin)) (.yes (.lit .fin)))) (.lit (.fork (.lit (.lit .fin)) (.fork (.lit .fin) .fin))))) (.lit (.fork (.fork .fin (.fork (.lit (.lit .fin)) (.yes (.lit .fin)))) (.lit (.fork (.lit (.lit .fin)) (.fork (.lit .fin) .fin))))))))))) (.lit (.fork (.fork .fin (.fork (.yes (.lit (.lit .fin))) (.lit (.fork (.yes (.lit .fin)) (.lit (.fork (.fork .fin (.fork (.lit (.lit .fin)) (.yes (.lit .fin)))) (.lit (.fork (.lit (.lit .fin)) (.fork (.lit .fin) .fin))))))))) (.lit (.fork (.fork (.lit (.lit .fin)) (.fork (.yes (.lit .fin)) (.lit (.fork (.fork .fin (.fork (.lit (.lit .fin)) (.yes (.lit .fin)))) (.lit (.fork (.lit (.lit .fin)) (.fork (.lit .fin) .fin))))))) (.lit (.fork (.fork (.lit .fin) (.fork (.fork .fin (.fork (.lit (.lit .fin)) (.yes (.lit .fin)))) (.lit (.fork (.lit (.lit .fin)) (.fork (.lit .fin) .fin))))) (.lit (.fork (.fork .fin (.fork (.lit (.lit .fin)) (.yes (.lit .fin)))) (.lit (.fork (.lit (.lit .fin)) (.fork (.lit .fin) .fin))))))))))))) (.lit (.fork (.fork (.lit .fin) (.fork (.fork .fin (.fork (.yes (.lit (.lit .fin))) (.lit (.fork (.yes (.lit .fin)) (.lit (.fork (.fork .fin (.fork (.lit (.lit .fin)) (.yes (.lit .fin)))) (.lit (.fork (.lit (.lit .fin)) (.fork (.lit .fin) .fin))))))))) (.lit (.fork (.fork (.lit (.lit .fin)) (.fork (.yes (.lit .fin)) (.lit (.fork (.fork .fin (.fork (.lit (.lit .fin)) (.yes (.lit .fin)))) (.lit (.fork (.lit (.lit .fin)) (.fork (.lit .fin) .fin))))))) (.lit (.fork (.fork (.lit .fin) (.fork (.fork .fin (.fork (.lit (.lit .fin)) (.yes (.lit .fin)))) (.lit (.fork (.lit (.lit .fin)) (.fork (.lit .fin) .fin))))) (.lit (.fork (.fork .fin (.fork (.lit (.lit .fin)) (.yes (.lit .fin)))) (.lit (.fork (.lit (.lit .fin)) (.fork (.lit .fin) .fin))))))))))) (.lit (.fork (.fork .fin (.fork (.yes (.lit (.lit .fin))) (.lit (.fork (.yes (.lit .fin)) (.lit (.fork (.fork .fin (.fork (.lit (.lit .fin)) (.yes (.lit .fin)))) (.lit (.fork (.lit (.lit .fin)) (.fork (.lit .fin) .fin))))))))) (.lit (.fork (.fork (.lit (.lit .fin)) (.fork (.yes (.lit .fin)) (.lit (.fork (.fork .fin (.fork (.lit (.lit .fin)) (.yes (.lit .fin)))) (.lit (.fork (.lit (.lit .fin)) (.fork (.lit .fin) .fin))))))) (.lit (.fork (.fork (.lit .fin) (.fork (.fork .fin (.fork (.lit (.lit .fin)) (.yes (.lit .fin)))) (.lit (.fork (.lit (.lit .fin)) (.fork (.lit .fin) .fin))))) (.lit (.fork (.fork .fin (.fork (.lit (.lit .fin)) (.yes (.lit .fin)))) (.lit (.fork (.lit (.lit .fin)) (.fork (.lit .fin) .fin)))))))))))))))))
noncomputable def Fe (op r a b nn:Int) (tg:List Int) (ll:List Ins) (le:List Ins) (s:ByteArray) (n:Int) (st:Bool) (li:Bool) (wh:Bool):Tree:=
 (.call ⟨167,[sI .i64 op],[],.aS [sI .u32 n,.p (.sc (.bool st))],[]⟩
 (.call ⟨179,[sI .i64 op],[],.p (.sc (.string s)),[]⟩
 (.test (s.data.toList==(ByteArray.mk #[]).data.toList)
 (.out (.ret (sB false) []))
 (.test (decide (r<0))
 (.out (.ret (sB false) []))
 (.test (decide (r>1))
 (.out (.ret (sB false) []))
 (.test (decide (r>0))
 (.call ⟨180,[sI .i64 op],[],.p (.sc (.bool li)),[]⟩
 (.test (!li)
 (.out (.ret (sB false) []))
 (.test (decide ((↑ll.length:Int)>0))
 (.call ⟨180,[sI .i64 op],[],.p (.sc (.bool li)),[]⟩
 (.must (!(!li))
 (.test (decide ((↑le.length:Int)>0))
 (.test (op != 4)
 (.out (.ret (sB false) []))
 (.test (decide ((↑tg.length:Int)>0))
 (.must (op != 14)
 (.out (.ret (sB false) [])))
 (.test (nn != 0)
 (.must (op != 65)
 (.out (.ret (sB false) [])))
 (.test (b != 0)
 (.test (!st)
 (.out (.ret (sB false) []))
 (.test (a==0)
 (.out (.ret (sB true) []))
 (.must (st)
 (.out (.ret (sB true) [])))))
 (.test (a==0)
 (.out (.ret (sB true) []))
 (.test (st)
 (.out (.ret (sB true) []))
 (.call ⟨181,[sI .i64 op],[],.p (.sc (.bool wh)),[]⟩
 (.test (wh)
 (.out (.ret (sB true) []))
 (.out (.ret (.p (.sc (.bool (op==14)))) []))))))))))
 (.test (decide ((↑tg.length:Int)>0))
 (.test (op != 14)
 (.out (.ret (sB false) []))
 (.test (nn != 0)
 (.must (op != 65)
 (.out (.ret (sB false) [])))
 (.test (b != 0)
 (.test (!st)
 (.out (.ret (sB false) []))
 (.test (a==0)
 (.out (.ret (sB true) []))
 (.must (st)
 (.out (.ret (sB true) [])))))
 (.test (a==0)
 (.out (.ret (sB true) []))
 (.test (st)
 (.out (.ret (sB true) []))
 (.call ⟨181,[sI .i64 op],[],.p (.sc (.bool wh)),[]⟩
 (.test (wh)
 (.out (.ret (sB true) []))
 (.out (.ret (.p (.sc (.bool (op==14)))) [])))))))))
 (.test (nn != 0)
 (.test (op != 65)
 (.out (.ret (sB false) []))
 (.test (b != 0)
 (.test (!st)
 (.out (.ret (sB false) []))
 (.test (a==0)
 (.out (.ret (sB true) []))
 (.must (st)
 (.out (.ret (sB true) [])))))
 (.test (a==0)
 (.out (.ret (sB true) []))
 (.test (st)
 (.out (.ret (sB true) []))
 (.call ⟨181,[sI .i64 op],[],.p (.sc (.bool wh)),[]⟩
 (.test (wh)
 (.out (.ret (sB true) []))
 (.out (.ret (.p (.sc (.bool (op==14)))) []))))))))
 (.test (b != 0)
 (.test (!st)
 (.out (.ret (sB false) []))
 (.test (a==0)
 (.out (.ret (sB true) []))
 (.must (st)
 (.out (.ret (sB true) [])))))
 (.test (a==0)
 (.out (.ret (sB true) []))
 (.test (st)
 (.out (.ret (sB true) []))
 (.call ⟨181,[sI .i64 op],[],.p (.sc (.bool wh)),[]⟩
 (.test (wh)
 (.out (.ret (sB true) []))
 (.out (.ret (.p (.sc (.bool (op==14)))) []))))))))))))
 (.test (decide ((↑le.length:Int)>0))
 (.test (op != 4)
 (.out (.ret (sB false) []))
 (.test (decide ((↑tg.length:Int)>0))
 (.must (op != 14)
 (.out (.ret (sB false) [])))
 (.test (nn != 0)
 (.must (op != 65)
 (.out (.ret (sB false) [])))
 (.test (b != 0)
 (.test (!st)
 (.out (.ret (sB false) []))
 (.test (a==0)
 (.out (.ret (sB true) []))
 (.must (st)
 (.out (.ret (sB true) [])))))
 (.test (a==0)
 (.out (.ret (sB true) []))
 (.test (st)
 (.out (.ret (sB true) []))
 (.call ⟨181,[sI .i64 op],[],.p (.sc (.bool wh)),[]⟩
 (.test (wh)
 (.out (.ret (sB true) []))
 (.out (.ret (.p (.sc (.bool (op==14)))) []))))))))))
 (.test (decide ((↑tg.length:Int)>0))
 (.test (op != 14)
 (.out (.ret (sB false) []))
 (.test (nn != 0)
 (.must (op != 65)
 (.out (.ret (sB false) [])))
 (.test (b != 0)
 (.test (!st)
 (.out (.ret (sB false) []))
 (.test (a==0)
 (.out (.ret (sB true) []))
 (.must (st)
 (.out (.ret (sB true) [])))))
 (.test (a==0)
 (.out (.ret (sB true) []))
 (.test (st)
 (.out (.ret (sB true) []))
 (.call ⟨181,[sI .i64 op],[],.p (.sc (.bool wh)),[]⟩
 (.test (wh)
 (.out (.ret (sB true) []))
 (.out (.ret (.p (.sc (.bool (op==14)))) [])))))))))
 (.test (nn != 0)
 (.test (op != 65)
 (.out (.ret (sB false) []))
 (.test (b != 0)
 (.test (!st)
 (.out (.ret (sB false) []))
 (.test (a==0)
 (.out (.ret (sB true) []))
 (.must (st)
 (.out (.ret (sB true) [])))))
 (.test (a==0)
 (.out (.ret (sB true) []))
 (.test (st)
 (.out (.ret (sB true) []))
 (.call ⟨181,[sI .i64 op],[],.p (.sc (.bool wh)),[]⟩
 (.test (wh)
 (.out (.ret (sB true) []))
 (.out (.ret (.p (.sc (.bool (op==14)))) []))))))))
 (.test (b != 0)
 (.test (!st)
 (.out (.ret (sB false) []))
 (.test (a==0)
 (.out (.ret (sB true) []))
 (.must (st)
 (.out (.ret (sB true) [])))))
 (.test (a==0)
 (.out (.ret (sB true) []))
 (.test (st)
 (.out (.ret (sB true) []))
 (.call ⟨181,[sI .i64 op],[],.p (.sc (.bool wh)),[]⟩
 (.test (wh)
 (.out (.ret (sB true) []))
 (.out (.ret (.p (.sc (.bool (op==14)))) [])))))))))))))
 (.test (decide ((↑ll.length:Int)>0))
 (.call ⟨180,[sI .i64 op],[],.p (.sc (.bool li)),[]⟩
 (.test (!li)
 (.out (.ret (sB false) []))
 (.test (decide ((↑le.length:Int)>0))
 (.test (op != 4)
 (.out (.ret (sB false) []))
 (.test (decide ((↑tg.length:Int)>0))
 (.must (op != 14)
 (.out (.ret (sB false) [])))
 (.test (nn != 0)
 (.must (op != 65)
 (.out (.ret (sB false) [])))
 (.test (b != 0)
 (.test (!st)
 (.out (.ret (sB false) []))
 (.test (a==0)
 (.out (.ret (sB true) []))
 (.must (st)
 (.out (.ret (sB true) [])))))
 (.test (a==0)
 (.out (.ret (sB true) []))
 (.test (st)
 (.out (.ret (sB true) []))
 (.call ⟨181,[sI .i64 op],[],.p (.sc (.bool wh)),[]⟩
 (.test (wh)
 (.out (.ret (sB true) []))
 (.out (.ret (.p (.sc (.bool (op==14)))) []))))))))))
 (.test (decide ((↑tg.length:Int)>0))
 (.test (op != 14)
 (.out (.ret (sB false) []))
 (.test (nn != 0)
 (.must (op != 65)
 (.out (.ret (sB false) [])))
 (.test (b != 0)
 (.test (!st)
 (.out (.ret (sB false) []))
 (.test (a==0)
 (.out (.ret (sB true) []))
 (.must (st)
 (.out (.ret (sB true) [])))))
 (.test (a==0)
 (.out (.ret (sB true) []))
 (.test (st)
 (.out (.ret (sB true) []))
 (.call ⟨181,[sI .i64 op],[],.p (.sc (.bool wh)),[]⟩
 (.test (wh)
 (.out (.ret (sB true) []))
 (.out (.ret (.p (.sc (.bool (op==14)))) [])))))))))
 (.test (nn != 0)
 (.test (op != 65)
 (.out (.ret (sB false) []))
 (.test (b != 0)
 (.test (!st)
 (.out (.ret (sB false) []))
 (.test (a==0)
 (.out (.ret (sB true) []))
 (.must (st)
 (.out (.ret (sB true) [])))))
 (.test (a==0)
 (.out (.ret (sB true) []))
 (.test (st)
 (.out (.ret (sB true) []))
 (.call ⟨181,[sI .i64 op],[],.p (.sc (.bool wh)),[]⟩
 (.test (wh)
 (.out (.ret (sB true) []))
 (.out (.ret (.p (.sc (.bool (op==14)))) []))))))))
 (.test (b != 0)
 (.test (!st)
 (.out (.ret (sB false) []))
 (.test (a==0)
 (.out (.ret (sB true) []))
 (.must (st)
 (.out (.ret (sB true) [])))))
 (.test (a==0)
 (.out (.ret (sB true) []))
 (.test (st)
 (.out (.ret (sB true) []))
 (.call ⟨181,[sI .i64 op],[],.p (.sc (.bool wh)),[]⟩
 (.test (wh)
 (.out (.ret (sB true) []))
 (.out (.ret (.p (.sc (.bool (op==14)))) []))))))))))))
 (.test (decide ((↑le.length:Int)>0))
 (.test (op != 4)
 (.out (.ret (sB false) []))
 (.test (decide ((↑tg.length:Int)>0))
 (.must (op != 14)
 (.out (.ret (sB false) [])))
 (.test (nn != 0)
 (.must (op != 65)
 (.out (.ret (sB false) [])))
 (.test (b != 0)
 (.test (!st)
 (.out (.ret (sB false) []))
 (.test (a==0)
 (.out (.ret (sB true) []))
 (.must (st)
 (.out (.ret (sB true) [])))))
 (.test (a==0)
 (.out (.ret (sB true) []))
 (.test (st)
 (.out (.ret (sB true) []))
 (.call ⟨181,[sI .i64 op],[],.p (.sc (.bool wh)),[]⟩
 (.test (wh)
 (.out (.ret (sB true) []))
 (.out (.ret (.p (.sc (.bool (op==14)))) []))))))))))
 (.test (decide ((↑tg.length:Int)>0))
 (.test (op != 14)
 (.out (.ret (sB false) []))
 (.test (nn != 0)
 (.must (op != 65)
 (.out (.ret (sB false) [])))
 (.test (b != 0)
 (.test (!st)
 (.out (.ret (sB false) []))
 (.test (a==0)
 (.out (.ret (sB true) []))
 (.must (st)
 (.out (.ret (sB true) [])))))
 (.test (a==0)
 (.out (.ret (sB true) []))
 (.test (st)
 (.out (.ret (sB true) []))
 (.call ⟨181,[sI .i64 op],[],.p (.sc (.bool wh)),[]⟩
 (.test (wh)
 (.out (.ret (sB true) []))
 (.out (.ret (.p (.sc (.bool (op==14)))) [])))))))))
 (.test (nn != 0)
 (.test (op != 65)
 (.out (.ret (sB false) []))
 (.test (b != 0)
 (.test (!st)
 (.out (.ret (sB false) []))
 (.test (a==0)
 (.out (.ret (sB true) []))
 (.must (st)
 (.out (.ret (sB true) [])))))
 (.test (a==0)
 (.out (.ret (sB true) []))
 (.test (st)
 (.out (.ret (sB true) []))
 (.call ⟨181,[sI .i64 op],[],.p (.sc (.bool wh)),[]⟩
 (.test (wh)
 (.out (.ret (sB true) []))
 (.out (.ret (.p (.sc (.bool (op==14)))) []))))))))
 (.test (b != 0)
 (.test (!st)
 (.out (.ret (sB false) []))
 (.test (a==0)
 (.out (.ret (sB true) []))
 (.must (st)
 (.out (.ret (sB true) [])))))
 (.test (a==0)
 (.out (.ret (sB true) []))
 (.test (st)
 (.out (.ret (sB true) []))
 (.call ⟨181,[sI .i64 op],[],.p (.sc (.bool wh)),[]⟩
 (.test (wh)
 (.out (.ret (sB true) []))
 (.out (.ret (.p (.sc (.bool (op==14)))) [])))))))))))))))))
theorem J9 (op r a b nn:Int) (tg:List Int) (ll:List Ins) (le:List Ins) (s:ByteArray) (n:Int) (st:Bool) (li:Bool) (wh:Bool):aR Tryz.prog env (SB op r a b nn tg ll le s n st li wh) 1000000 169 ([rD op r a b nn tg ll le]) ([]) Xn=Fe op r a b nn tg ll le s n st li wh:=by kernel_rfl
def gh (e0 e1 e2 e3 e4 e5 li n4 e6 Ni e8 QS e7 st a0 wh:Bool):Bool:=
 !e0&&(!e1&&(!e2&&(!(e3 && !li)&&(!(e4 && !li)&&(!(e5&&n4)&&(!(e6&&Ni)&&(!(e8&&QS)&&(!(e7 && !st)&&(a0||(st||(wh || !Ni)))))))))))
set_option maxHeartbeats 8000000 in
theorem SC (op r a b nn:Int) (tg:List Int) (ll le:List Ins) (s:ByteArray) (n:Int) (st li wh:Bool) (h1:aC Tryz.prog env 167 [sI .i64 op] [] (.aS [sI .u32 n,sB st]) []) (h2:aC Tryz.prog env 179 [sI .i64 op] [] (.p (.sc (.string s))) [])
  (h3:aC Tryz.prog env 180 [sI .i64 op] [] (sB li) []) (h4:aC Tryz.prog env 181 [sI .i64 op] [] (sB wh) []) :
  aC Tryz.prog env 169 [rD op r a b nn tg ll le] [] (sB (gh (s.data.toList==(ByteArray.mk #[]).data.toList) (decide (r<0)) (decide (r>1)) (decide (r>0)) (decide ((ll.length:Int)>0)) (decide ((le.length:Int)>0)) li (op != 4) (decide ((tg.length:Int)>0)) (op != 14) (nn != 0) (op != 65) (b != 0) st (a==0) wh)) []:=by
 refine ah names (J9 op r a b nn tg ll le s n st li wh) ?_
 simp only[Fe,Tree.ok]
 have e14:(op==14) = !(op != 14):=by simp[bne]
 simp only[e14]
 have c1:(op != 14)=false→(op != 65)=true:=by simp only[bne_eq_false_iff_eq,bne_iff_ne,ne_eq];omega
 have c2:(op != 4)=false→(op != 14)=true:=by simp only[bne_eq_false_iff_eq,bne_iff_ne,ne_eq];omega
 have c3:(op != 4)=false→(op != 65)=true:=by simp only[bne_eq_false_iff_eq,bne_iff_ne,ne_eq];omega
 clear e14
 generalize (s.data.toList==(ByteArray.mk #[]).data.toList)=e0
 generalize decide (r<0)=e1
 generalize decide (r>1)=e2
 generalize decide (r>0)=e3
 generalize decide ((ll.length:Int)>0)=e4
 generalize decide ((le.length:Int)>0)=e5
 generalize (op != 4)=n4 at c2 c3 ⊢
 generalize decide ((tg.length:Int)>0)=e6
 generalize (op != 14)=Ni at c1 c2 ⊢
 generalize (nn != 0)=e8
 generalize (op != 65)=QS at c1 c3 ⊢
 generalize (b != 0)=e7
 generalize (a==0)=a0
 refine⟨h1,h2,?_⟩
 cases e0
 case true=>simp[gh]
 cases e1
 case true=>simp[gh]
 cases e2
 case true=>simp[gh]
 cases n4
 case false=>
  obtain rfl:=c2 rfl
  obtain rfl:=c3 rfl
  clear c1 c2 c3
  cases e3<;>cases li<;>(try (simp[gh,h3];done))<;>cases e4<;>(try (simp[gh,h3];done))<;>cases e5<;>cases e6<;>(try (simp[gh,h3];done))<;>cases e8<;>(try (simp[gh,h3];done))<;>cases e7<;>cases st<;>(try (simp[gh,h3];done))<;>cases a0<;>(try (simp[gh,h3];done))<;>cases wh<;>simp[gh,h3,h4]
 clear c2 c3
 cases Ni
 case false=>
  obtain rfl:=c1 rfl
  clear c1
  cases e3<;>cases li<;>(try (simp[gh,h3];done))<;>cases e4<;>(try (simp[gh,h3];done))<;>cases e5<;>(try (simp[gh,h3];done))<;>cases e6<;>cases e8<;>(try (simp[gh,h3];done))<;>cases e7<;>cases st<;>(try (simp[gh,h3];done))<;>cases a0<;>(try (simp[gh,h3];done))<;>cases wh<;>simp[gh,h3,h4]
 clear c1
 cases e3<;>cases li<;>(try (simp[gh,h3];done))<;>cases e4<;>(try (simp[gh,h3];done))<;>cases e5<;>(try (simp[gh,h3];done))<;>cases e6<;>(try (simp[gh,h3];done))<;>cases e8<;>cases QS<;>(try (simp[gh,h3];done))<;>cases e7<;>cases st<;>(try (simp[gh,h3];done))<;>cases a0<;>(try (simp[gh,h3];done))<;>cases wh<;>simp[gh,h3,h4]
end Go.Proofs.YtdmmllcjgjmbbaaGreatDoor.N
end
section
namespace Go.Proofs.YtdmmllcjgjmbbaaGreatDoor.N
open Go Go.Am
noncomputable def SD:bu:=aK av az [] [(179,3,3),(179,6,3),(185,0,0),(185,0,1),(185,0,2),(185,0,3),(185,0,4),(185,0,5),(185,0,6),(185,0,7),(185,0,8),(185,0,9),(185,0,10),(185,0,11),(185,0,12),(189,0,0),(189,0,1),(189,0,2),(189,0,3),(189,0,4),(189,0,5),(189,0,6),(189,0,7),(189,0,8),(189,0,9),(189,0,10),(189,0,11),(189,0,12),(189,0,13),(189,0,14),(189,0,15)] []
def Xo:Sc:=(.no (.no (.no (.no (.no (.no (.no (.no (.no (.no (.no (.no (.no (.no (.no (.no (.no (.no (.no (.no (.no (.no (.no (.no (.no (.no (.no (.no (.no (.no (.no .fin)))))))))))))))))))))))))))))))
noncomputable def Ff (op:Int):Tree:=
 (.must (!(decide (op≥69)))
 (.must (!(decide (op≥103)))
 (.must (!(op==0))
 (.must (!(op==1))
 (.must (!(op==2))
 (.must (!(op==3))
 (.must (!(op==4))
 (.must (!(op==12))
 (.must (!(op==13))
 (.must (!(op==14))
 (.must (!(op==15))
 (.must (!(op==16))
 (.must (!(op==17))
 (.must (!(op==26))
 (.must (!(op==27))
 (.must (!(op==32))
 (.must (!(op==33))
 (.must (!(op==34))
 (.must (!(op==35))
 (.must (!(op==36))
 (.must (!(op==40))
 (.must (!(op==44))
 (.must (!(op==45))
 (.must (!(op==46))
 (.must (!(op==47))
 (.must (!(op==54))
 (.must (!(op==58))
 (.must (!(op==59))
 (.must (!(op==63))
 (.must (!(op==64))
 (.must (!(op==65))
 (.out (.ret (.p (.sc (.string (ByteArray.mk #[])))) [])))))))))))))))))))))))))))))))))
theorem Ka (op:Int):aR Tryz.prog env SD 1000000 179 ([sI IntKind.i64 op]) ([]) Xo=Ff op:=by kernel_rfl
noncomputable def SE:bu:=aK av az [] [(179,3,3),(179,0,0),(179,6,3),(179,0,1),(185,0,0),(185,0,1),(185,0,2),(185,0,3),(185,0,4),(185,0,5),(185,0,6),(185,0,7),(185,0,8),(185,0,9),(185,0,10),(185,0,11),(185,0,12),(189,0,0),(189,0,1),(189,0,2),(189,0,3),(189,0,4),(189,0,5),(189,0,6),(189,0,7),(189,0,8),(189,0,9),(189,0,10),(189,0,11),(189,0,12),(189,0,13),(189,0,14),(189,0,15)] []
def Xp:Sc:=(.yes (.no (.yes (.no (.no (.no (.no (.no (.no (.no (.no (.no (.no (.no (.no (.no (.no (.no (.no (.no (.no (.no (.no (.no (.no (.no (.no (.no (.no (.no (.no (.no (.no .fin)))))))))))))))))))))))))))))))))
noncomputable def Fg (op:Int):Tree:=
 (.must (decide (op≥69))
 (.must (!(decide (op≤79)))
 (.must (decide (op≥103))
 (.must (!(decide (op≤120)))
 (.must (!(op==0))
 (.must (!(op==1))
 (.must (!(op==2))
 (.must (!(op==3))
 (.must (!(op==4))
 (.must (!(op==12))
 (.must (!(op==13))
 (.must (!(op==14))
 (.must (!(op==15))
 (.must (!(op==16))
 (.must (!(op==17))
 (.must (!(op==26))
 (.must (!(op==27))
 (.must (!(op==32))
 (.must (!(op==33))
 (.must (!(op==34))
 (.must (!(op==35))
 (.must (!(op==36))
 (.must (!(op==40))
 (.must (!(op==44))
 (.must (!(op==45))
 (.must (!(op==46))
 (.must (!(op==47))
 (.must (!(op==54))
 (.must (!(op==58))
 (.must (!(op==59))
 (.must (!(op==63))
 (.must (!(op==64))
 (.must (!(op==65))
 (.out (.ret (.p (.sc (.string (ByteArray.mk #[])))) [])))))))))))))))))))))))))))))))))))
theorem Kb (op:Int):aR Tryz.prog env SE 1000000 179 ([sI IntKind.i64 op]) ([]) Xp=Fg op:=by kernel_rfl
noncomputable def kH (n:Nat):Bool:=
 match Ac Tryz.prog env [] 100000 179 [sI .i64 n] [] with
 |some (.ret v m)=>eL v (.p (.sc (.string (JZ.getD n ⟨#[]⟩))))&&nR m []
 |_=>false
theorem SF:(List.range' 0 32).all kH=true:=by kernel_rfl
theorem SG:(List.range' 32 32).all kH=true:=by kernel_rfl
theorem SH:(List.range' 64 32).all kH=true:=by kernel_rfl
theorem SI:(List.range' 96 32).all kH=true:=by kernel_rfl
theorem SJ:(List.range' 128 32).all kH=true:=by kernel_rfl
theorem SK:(List.range' 160 32).all kH=true:=by kernel_rfl
theorem SL:(List.range' 192 32).all kH=true:=by kernel_rfl
theorem SM:(List.range' 224 32).all kH=true:=by kernel_rfl
theorem GZ {n:Nat} (h:n<256):kH n=true:=by
 have get : ∀a,(List.range' a 32).all kH=true→a≤n→n<a+32→kH n=true:=fun a ha h1 h2=>List.all_eq_true.1 ha n (List.mem_range'_1.2 ⟨h1,h2⟩)
 rcases Nat.lt_or_ge n 32 with q | q
 · exact get 0 SF (by omega) (by omega)
 rcases Nat.lt_or_ge n 64 with q | q
 · exact get 32 SG (by omega) (by omega)
 rcases Nat.lt_or_ge n 96 with q | q
 · exact get 64 SH (by omega) (by omega)
 rcases Nat.lt_or_ge n 128 with q | q
 · exact get 96 SI (by omega) (by omega)
 rcases Nat.lt_or_ge n 160 with q | q
 · exact get 128 SJ (by omega) (by omega)
 rcases Nat.lt_or_ge n 192 with q | q
 · exact get 160 SK (by omega) (by omega)
 rcases Nat.lt_or_ge n 224 with q | q
 · exact get 192 SL (by omega) (by omega)
 · exact get 224 SM (by omega) (by omega)
theorem DZ (op:Int):aC Tryz.prog env 179 [sI .i64 op] [] (.p (.sc (.string (nm op)))) []:=by
 by_cases h0:op<0
 · refine ah names (Ka op) ?_
   rw[nm,if_pos (.inl h0)]
   simp only[Ff,Tree.ok,Bool.not_eq_true',beq_eq_false_iff_ne,decide_eq_false_iff_not]
   repeat' first | exact True.intro | exact rfl | apply And.intro
   all_goals omega
 · by_cases h1:256≤op
   · refine ah names (Kb op) ?_
     rw[nm,if_pos (.inr h1)]
     simp only[Fg,Tree.ok,Bool.not_eq_true',beq_eq_false_iff_ne,decide_eq_false_iff_not,decide_eq_true_eq]
     repeat' first | exact True.intro | exact rfl | apply And.intro
     all_goals omega
   · obtain⟨n,rfl⟩:=Int.eq_ofNat_of_zero_le (by omega:0≤op)
     have hr:=GZ (n:=n) (by omega)
     unfold kH at hr
     split at hr
     · rename_i v m hx
       rw[Bool.and_eq_true] at hr
       rw[iZ hr.1,jz hr.2] at hx
       rw[nm,if_neg (by omega)]
       exact ec names jH hx
     · cases hr
def iM:Ins→Bool
 |.mk op r a b nn tg ll le=>rE ((nm op).data.toList==(ByteArray.mk #[]).data.toList) (DU op) (decide (op=4)) (oO op||DV op||decide (op=14)) (oO op) (decide (op=65)) (decide (op=14)) (decide (r<0)) (decide (r>1)) (r != 0) (decide ((ll.length:Int)>0)) (decide ((le.length:Int)>0)) (a==0) (b==0) (nn==0) ((tg.length:Int)==0)
theorem G0 (x:Ins):aC Tryz.prog env 125 [GG x] [] (sB (iM x)) []:=by
 obtain⟨op,r,a,b,nn,tg,ll,le⟩:=x
 exact SA op r a b nn tg ll le (nm op) _ _ _ _ _ _ (GY op) (GX op)
theorem G1 : ∀e0 e1 e2 e3 e4 e5 li n4 e6 Ni e8 QS e7 st a0 wh:Bool,(e1=true→e3=false)→rE e0 li (!n4) (st||wh || !Ni) st (!QS) (!Ni) e1 e2 (e1||e3) e4 e5 a0 (!e7) (!e8) (!e6)=gh e0 e1 e2 e3 e4 e5 li n4 e6 Ni e8 QS e7 st a0 wh:=by
 intro e0 e1 e2 e3 e4 e5 li n4 e6 Ni e8 QS e7 st a0 wh
 cases e0
 case true=>intro _;rfl
 cases e1
 case true=>intro _;rfl
 cases e2
 case true=>intro _;rfl
 intro _
 revert e3 e4 e5 li n4 e6 Ni e8 QS e7 st a0 wh
 decide +kernel
theorem BX (x:Ins):aC Tryz.prog env 169 [GG x] [] (sB (iM x)) []:=by
 obtain⟨op,r,a,b,nn,tg,ll,le⟩:=x
 have h:=SC op r a b nn tg ll le (nm op) _ _ _ _ (BV op) (DZ op) (DX op) (DY op)
 rw[←G1] at h
 · have e1:(!(op != 4))=decide (op=4):=by rw[Bool.eq_iff_iff];simp
   have e2:(!(op != 14))=decide (op=14):=by rw[Bool.eq_iff_iff];simp
   have e3:(!(op != 65))=decide (op=65):=by rw[Bool.eq_iff_iff];simp
   have e4:(!(b != 0))=(b==0):=by simp[bne]
   have e5:(!(nn != 0))=(nn==0):=by simp[bne]
   have e6:(!decide ((tg.length:Int)>0))=((tg.length:Int)==0):=by rw[Bool.eq_iff_iff,Bool.not_eq_true',decide_eq_false_iff_not,beq_iff_eq];omega
   have e7:(decide (r<0)||decide (r>0))=(r != 0):=by rw[Bool.eq_iff_iff,Bool.or_eq_true,decide_eq_true_eq,decide_eq_true_eq,bne_iff_ne];omega
   rw[e1,e2,e3,e4,e5,e6,e7] at h
   exact h
 · intro q;rw[decide_eq_true_eq] at q;rw[decide_eq_false_iff_not];omega
end Go.Proofs.YtdmmllcjgjmbbaaGreatDoor.N
end
