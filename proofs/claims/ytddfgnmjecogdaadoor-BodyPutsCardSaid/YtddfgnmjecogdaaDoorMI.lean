/-
One instruction: its operation's name, what the operation uses, whether it may be, as the program and as the document say.
One instruction: whether it may be, as the document says.
The document's check of instructions: what its parts tell, of any instructions.
Lists of instructions: induction by what stands in the lists; functions of a list's cells.
-/
import Derived.Test.YtddfgnmjecogdaaDoorMH
section
namespace Go.Proofs.YtddfgnmjecogdaaDoor.N
open Go Go.Am
def KJ (f:FuncId) (_:List AV) (_:Mem):Option (AV×Mem):=cond (Nat.beq f 63) (some (.agg (Ct.map fun s=> .p (.sc (.string s))),[])) none
def KK (op:Int):FuncId→Nat→Nat→Option (AV→AV):=fk [(44,4,2,.p (.sc (.string (Ct.getD op.toNat ⟨#[]⟩))))]
def KL (_op:Int) (n:Int) (st:Bool) (f:FuncId) (_:List AV) (_:Mem):Option (AV×Mem):=cond (Nat.beq f 53) (some (.aO [sI .u32 n,sB st],[])) none
def KM (_op _r _a _b _nn:Int) (_tg:List Int) (_ll _le:List Ins) (s:ByteArray) (u1 u2 u3 u4 u5 u6:Bool) (f:FuncId) (_:List AV) (_:Mem):Option (AV×Mem):=cond (Nat.beq f 44) (some (.p (.sc (.string s)),[])) (cond (Nat.beq f 73) (some (.agg [sB u1,sB u2,sB u3,sB u4,sB u5,sB u6],[])) none)
noncomputable def Ge (op:Int):dR:=qD KJ aW [] [(44,2,3),(44,0,0)] [(44,4,2)] (KK op)
def IF:Sc:=(.fork (.lit .fin) .fin)
noncomputable def zy (op:Int):Tree:=
 (.test (decide (op<0))
 (.out (.ret (.p (.sc (.string (ByteArray.mk #[])))) []))
 (.test (decide (op≥256))
 (.out (.ret (.p (.sc (.string (ByteArray.mk #[])))) []))
 (.call ⟨63,[],[],.agg (Ct.map fun s=> .p (.sc (.string s))),[]⟩
 (.must (ep op 256&&(op.toNat*1).blt 256&&true)
 (.need ((Ct.map fun s=>AV.p (PV.sc (.string s))).getD (op.toNat*1) AV.ah=AV.p (PV.sc (Value.string (Ct.getD op.toNat (ByteArray.mk #[])))))
 (.out (.ret (.p (.sc (.string (Ct.getD op.toNat (ByteArray.mk #[]))))) [])))))))
theorem Cu (op:Int):bC Tryd.prog env (Ge op) 1000000 44 ([sI IntKind.i64 op]) ([]) IF=zy op:=by kernel_rfl
noncomputable def Gf:dR:=cr bk aW [] [(53,0,0),(53,0,1),(53,0,2),(53,0,4),(53,0,3),(53,0,5),(53,0,7),(53,0,6)] []
def IG:Sc:=(.fork (.yes .fin) (.fork .fin (.fork (.yes .fin) (.fork (.yes .fin) (.fork .fin (.fork (.yes .fin) (.fork (.yes .fin) .fin)))))))
noncomputable def zz (op:Int):Tree:=
 (.test (op==40)
 (.must (op==40)
 (.out (.ret (.aO [sI .u32 2,sB true]) [])))
 (.test (op==54)
 (.out (.ret (.aO [sI .u32 2,sB true]) []))
 (.test (op==46)
 (.must (op==46)
 (.out (.ret (.aO [sI .u32 1,sB true]) [])))
 (.test (op==47)
 (.must (op==47)
 (.out (.ret (.aO [sI .u32 1,sB true]) [])))
 (.test (op==59)
 (.out (.ret (.aO [sI .u32 1,sB true]) []))
 (.test (op==44)
 (.must (op==44)
 (.out (.ret (.aO [sI .u32 0,sB true]) [])))
 (.test (op==45)
 (.must (op==45)
 (.out (.ret (.aO [sI .u32 0,sB true]) [])))
 (.test (op==58)
 (.out (.ret (.aO [sI .u32 0,sB true]) []))
 (.out (.ret (.aO [sI .u32 0,sB false]) []))))))))))
theorem Cv (op:Int):bC Tryd.prog env Gf 1000000 53 ([sI IntKind.i64 op]) ([]) IG=zz op:=by kernel_rfl
noncomputable def Gg:dR:=cr bk aW [] [(67,0,0),(67,0,1),(67,0,2),(67,0,4),(67,0,3),(67,0,5),(67,0,7),(67,0,6)] []
def II:Sc:=(.fork (.yes .fin) (.fork .fin (.fork (.yes .fin) (.fork (.yes .fin) (.fork .fin (.fork (.yes .fin) (.fork (.yes .fin) .fin)))))))
noncomputable def zA (op:Int):Tree:=
 (.test (op==40)
 (.must (op==40)
 (.out (.ret (.aO [sI .u32 2,sB true]) [])))
 (.test (op==54)
 (.out (.ret (.aO [sI .u32 2,sB true]) []))
 (.test (op==46)
 (.must (op==46)
 (.out (.ret (.aO [sI .u32 1,sB true]) [])))
 (.test (op==47)
 (.must (op==47)
 (.out (.ret (.aO [sI .u32 1,sB true]) [])))
 (.test (op==59)
 (.out (.ret (.aO [sI .u32 1,sB true]) []))
 (.test (op==44)
 (.must (op==44)
 (.out (.ret (.aO [sI .u32 0,sB true]) [])))
 (.test (op==45)
 (.must (op==45)
 (.out (.ret (.aO [sI .u32 0,sB true]) [])))
 (.test (op==58)
 (.out (.ret (.aO [sI .u32 0,sB true]) []))
 (.out (.ret (.aO [sI .u32 0,sB false]) []))))))))))
theorem Cw (op:Int):bC Tryd.prog env Gg 1000000 67 ([sI IntKind.i64 op]) ([]) II=zA op:=by kernel_rfl
noncomputable def Gi:dR:=cr bk aW [] [(68,2,3),(68,2,7)] []
def IJ:Sc:=(.fork (.lit .fin) .fin)
noncomputable def zB (op:Int):Tree:=
 (.test (op==2)
 (.out (.ret (sB true) []))
 (.test (op==3)
 (.out (.ret (sB true) []))
 (.out (.ret (.p (.sc (.bool (op==4)))) []))))
theorem Cx (op:Int):bC Tryd.prog env Gi 1000000 68 ([sI IntKind.i64 op]) ([]) IJ=zB op:=by kernel_rfl
noncomputable def Gj:dR:=cr bk aW [] [(70,2,3),(70,2,7),(70,2,11),(70,2,15),(70,2,18)] []
def IK:Sc:=(.fork (.lit (.lit (.lit .fin))) (.fork (.lit (.lit .fin)) (.fork (.lit .fin) .fin)))
noncomputable def zC (op:Int):Tree:=
 (.test (op==12)
 (.out (.ret (sB true) []))
 (.test (op==13)
 (.out (.ret (sB true) []))
 (.test (op==16)
 (.out (.ret (sB true) []))
 (.test (op==17)
 (.out (.ret (sB true) []))
 (.test (decide (op≥32))
 (.out (.ret (.p (.sc (.bool (decide (op≤36))))) []))
 (.out (.ret (sB false) [])))))))
theorem Cy (op:Int):bC Tryd.prog env Gj 1000000 70 ([sI IntKind.i64 op]) ([]) IK=zC op:=by kernel_rfl
noncomputable def Gk (op n:Int) (st:Bool):dR:=cr (KL op n st) aW [] [(73,0,0),(73,0,1),(73,0,2),(73,0,3),(73,0,4),(73,0,12),(73,0,5),(73,0,6),(73,0,7),(73,0,8),(73,0,9),(73,0,10),(73,0,11),(73,0,13),(73,0,14)] []
def IL:Sc:=(.fork .fin (.fork (.yes .fin) (.fork .fin (.fork .fin (.fork (.yes .fin) (.fork (.yes .fin) (.fork (.yes .fin) (.fork (.yes .fin) (.fork (.yes .fin) (.fork (.yes .fin) (.fork (.yes .fin) (.fork (.yes .fin) .fin))))))))))))
noncomputable def zD (op n:Int) (st:Bool):Tree:=
 (.call ⟨53,[sI .i64 op],[],.aO [sI .u32 n,.p (.sc (.bool st))],[]⟩
 (.test (st)
 (.out (.ret (.agg [sB false,sB false,sB true,sB true,sB false,sB false]) []))
 (.test (op==2)
 (.must (op==2)
 (.out (.ret (.agg [sB true,sB false,sB false,sB false,sB false,sB false]) [])))
 (.test (op==3)
 (.out (.ret (.agg [sB true,sB false,sB false,sB false,sB false,sB false]) []))
 (.test (op==4)
 (.out (.ret (.agg [sB true,sB true,sB false,sB false,sB false,sB false]) []))
 (.test (op==12)
 (.must (op==12)
 (.out (.ret (.agg [sB false,sB false,sB true,sB false,sB false,sB false]) [])))
 (.test (op==13)
 (.must (op==13)
 (.out (.ret (.agg [sB false,sB false,sB true,sB false,sB false,sB false]) [])))
 (.test (op==16)
 (.must (op==16)
 (.out (.ret (.agg [sB false,sB false,sB true,sB false,sB false,sB false]) [])))
 (.test (op==17)
 (.must (op==17)
 (.out (.ret (.agg [sB false,sB false,sB true,sB false,sB false,sB false]) [])))
 (.test (op==32)
 (.must (op==32)
 (.out (.ret (.agg [sB false,sB false,sB true,sB false,sB false,sB false]) [])))
 (.test (op==33)
 (.must (op==33)
 (.out (.ret (.agg [sB false,sB false,sB true,sB false,sB false,sB false]) [])))
 (.test (op==34)
 (.must (op==34)
 (.out (.ret (.agg [sB false,sB false,sB true,sB false,sB false,sB false]) [])))
 (.test (op==35)
 (.must (op==35)
 (.out (.ret (.agg [sB false,sB false,sB true,sB false,sB false,sB false]) [])))
 (.test (op==36)
 (.out (.ret (.agg [sB false,sB false,sB true,sB false,sB false,sB false]) []))
 (.test (op==14)
 (.out (.ret (.agg [sB false,sB false,sB true,sB false,sB false,sB true]) []))
 (.test (op==65)
 (.out (.ret (.agg [sB false,sB false,sB false,sB false,sB true,sB false]) []))
 (.out (.ret (.agg [sB false,sB false,sB false,sB false,sB false,sB false]) []))))))))))))))))))
theorem Cz (op n:Int) (st:Bool):bC Tryd.prog env (Gk op n st) 1000000 73 ([sI IntKind.i64 op]) ([]) IL=zD op n st:=by kernel_rfl
noncomputable def Gl (op r a b nn:Int) (tg:List Int) (ll:List Ins) (le:List Ins) (s:ByteArray) (u1:Bool) (u2:Bool) (u3:Bool) (u4:Bool) (u5:Bool) (u6:Bool):dR:=cr (KM op r a b nn tg ll le s u1 u2 u3 u4 u5 u6) aW [] [(50,0,0),(50,0,3),(50,4,4),(50,0,1),(50,5,4),(50,5,8),(50,0,2),(50,6,4),(50,8,3),(50,8,11),(50,8,20),(50,8,29),(50,8,26),(50,8,17),(50,8,8)] []
def IM:Sc:=(.fork (.yes .fin) (.fork (.lit (.lit .fin)) (.fork (.yes .fin) (.fork (.fork (.lit (.lit .fin)) (.fork (.yes .fin) (.fork (.fork .fin (.fork (.lit (.fork (.lit (.fork (.lit .fin) .fin)) (.fork (.fork (.lit .fin) .fin) (.lit .fin)))) (.fork (.fork (.lit (.fork (.lit .fin) .fin)) (.fork (.fork (.lit .fin) .fin) (.lit .fin))) (.lit (.lit .fin))))) (.lit (.fork (.lit (.fork (.lit (.fork (.lit .fin) .fin)) (.fork (.fork (.lit .fin) .fin) (.lit .fin)))) (.fork (.fork (.lit (.fork (.lit .fin) .fin)) (.fork (.fork (.lit .fin) .fin) (.lit .fin))) (.lit (.lit .fin)))))))) (.lit (.fork (.fork .fin (.fork (.lit (.fork (.lit (.fork (.lit .fin) .fin)) (.fork (.fork (.lit .fin) .fin) (.lit .fin)))) (.fork (.fork (.lit (.fork (.lit .fin) .fin)) (.fork (.fork (.lit .fin) .fin) (.lit .fin))) (.lit (.lit .fin))))) (.lit (.fork (.lit (.fork (.lit (.fork (.lit .fin) .fin)) (.fork (.fork (.lit .fin) .fin) (.lit .fin)))) (.fork (.fork (.lit (.fork (.lit .fin) .fin)) (.fork (.fork (.lit .fin) .fin) (.lit .fin))) (.lit (.lit .fin)))))))))))
noncomputable def zE (op r a b nn:Int) (tg:List Int) (ll:List Ins) (le:List Ins) (s:ByteArray) (u1:Bool) (u2:Bool) (u3:Bool) (u4:Bool) (u5:Bool) (u6:Bool):Tree:=
 (.call ⟨73,[sI .i64 op],[],.agg [.p (.sc (.bool u1)),.p (.sc (.bool u2)),.p (.sc (.bool u3)),.p (.sc (.bool u4)),.p (.sc (.bool u5)),.p (.sc (.bool u6))],[]⟩
 (.call ⟨44,[sI .i64 op],[],.p (.sc (.string s)),[]⟩
 (.test (s.data.toList==(ByteArray.mk #[]).data.toList)
 (.must (s.data.toList==(ByteArray.mk #[]).data.toList)
 (.out (.ret (sB false) [])))
 (.test (decide (r<0))
 (.out (.ret (sB false) []))
 (.test (decide (r>1))
 (.must (decide (r>1))
 (.out (.ret (sB false) [])))
 (.test (!u1)
 (.test (r != 0)
 (.out (.ret (sB false) []))
 (.test (decide ((↑ll.length:Int)>0))
 (.must (decide ((↑ll.length:Int)>0))
 (.out (.ret (sB false) [])))
 (.test (!u2)
 (.test (decide ((↑le.length:Int)>0))
 (.out (.ret (sB false) []))
 (.test (u3)
 (.test (u4)
 (.test (u5)
 (.test (u6)
 (.out (.ret (sB true) []))
 (.out (.ret (.p (.sc (.bool ((↑tg.length:Int)==0)))) [])))
 (.test (nn==0)
 (.test (u6)
 (.out (.ret (sB true) []))
 (.out (.ret (.p (.sc (.bool ((↑tg.length:Int)==0)))) [])))
 (.out (.ret (sB false) []))))
 (.test (b==0)
 (.test (u5)
 (.test (u6)
 (.out (.ret (sB true) []))
 (.out (.ret (.p (.sc (.bool ((↑tg.length:Int)==0)))) [])))
 (.test (nn==0)
 (.test (u6)
 (.out (.ret (sB true) []))
 (.out (.ret (.p (.sc (.bool ((↑tg.length:Int)==0)))) [])))
 (.out (.ret (sB false) []))))
 (.out (.ret (sB false) []))))
 (.test (a==0)
 (.test (u4)
 (.test (u5)
 (.test (u6)
 (.out (.ret (sB true) []))
 (.out (.ret (.p (.sc (.bool ((↑tg.length:Int)==0)))) [])))
 (.test (nn==0)
 (.test (u6)
 (.out (.ret (sB true) []))
 (.out (.ret (.p (.sc (.bool ((↑tg.length:Int)==0)))) [])))
 (.out (.ret (sB false) []))))
 (.test (b==0)
 (.test (u5)
 (.test (u6)
 (.out (.ret (sB true) []))
 (.out (.ret (.p (.sc (.bool ((↑tg.length:Int)==0)))) [])))
 (.test (nn==0)
 (.test (u6)
 (.out (.ret (sB true) []))
 (.out (.ret (.p (.sc (.bool ((↑tg.length:Int)==0)))) [])))
 (.out (.ret (sB false) []))))
 (.out (.ret (sB false) []))))
 (.out (.ret (sB false) [])))))
 (.test (u3)
 (.test (u4)
 (.test (u5)
 (.test (u6)
 (.out (.ret (sB true) []))
 (.out (.ret (.p (.sc (.bool ((↑tg.length:Int)==0)))) [])))
 (.test (nn==0)
 (.test (u6)
 (.out (.ret (sB true) []))
 (.out (.ret (.p (.sc (.bool ((↑tg.length:Int)==0)))) [])))
 (.out (.ret (sB false) []))))
 (.test (b==0)
 (.test (u5)
 (.test (u6)
 (.out (.ret (sB true) []))
 (.out (.ret (.p (.sc (.bool ((↑tg.length:Int)==0)))) [])))
 (.test (nn==0)
 (.test (u6)
 (.out (.ret (sB true) []))
 (.out (.ret (.p (.sc (.bool ((↑tg.length:Int)==0)))) [])))
 (.out (.ret (sB false) []))))
 (.out (.ret (sB false) []))))
 (.test (a==0)
 (.test (u4)
 (.test (u5)
 (.test (u6)
 (.out (.ret (sB true) []))
 (.out (.ret (.p (.sc (.bool ((↑tg.length:Int)==0)))) [])))
 (.test (nn==0)
 (.test (u6)
 (.out (.ret (sB true) []))
 (.out (.ret (.p (.sc (.bool ((↑tg.length:Int)==0)))) [])))
 (.out (.ret (sB false) []))))
 (.test (b==0)
 (.test (u5)
 (.test (u6)
 (.out (.ret (sB true) []))
 (.out (.ret (.p (.sc (.bool ((↑tg.length:Int)==0)))) [])))
 (.test (nn==0)
 (.test (u6)
 (.out (.ret (sB true) []))
 (.out (.ret (.p (.sc (.bool ((↑tg.length:Int)==0)))) [])))
 (.out (.ret (sB false) []))))
 (.out (.ret (sB false) []))))
 (.out (.ret (sB false) [])))))))
 (.test (!u2)
 (.test (decide ((↑le.length:Int)>0))
 (.out (.ret (sB false) []))
 (.test (u3)
 (.test (u4)
 (.test (u5)
 (.test (u6)
 (.out (.ret (sB true) []))
 (.out (.ret (.p (.sc (.bool ((↑tg.length:Int)==0)))) [])))
 (.test (nn==0)
 (.test (u6)
 (.out (.ret (sB true) []))
 (.out (.ret (.p (.sc (.bool ((↑tg.length:Int)==0)))) [])))
 (.out (.ret (sB false) []))))
 (.test (b==0)
 (.test (u5)
 (.test (u6)
 (.out (.ret (sB true) []))
 (.out (.ret (.p (.sc (.bool ((↑tg.length:Int)==0)))) [])))
 (.test (nn==0)
 (.test (u6)
 (.out (.ret (sB true) []))
 (.out (.ret (.p (.sc (.bool ((↑tg.length:Int)==0)))) [])))
 (.out (.ret (sB false) []))))
 (.out (.ret (sB false) []))))
 (.test (a==0)
 (.test (u4)
 (.test (u5)
 (.test (u6)
 (.out (.ret (sB true) []))
 (.out (.ret (.p (.sc (.bool ((↑tg.length:Int)==0)))) [])))
 (.test (nn==0)
 (.test (u6)
 (.out (.ret (sB true) []))
 (.out (.ret (.p (.sc (.bool ((↑tg.length:Int)==0)))) [])))
 (.out (.ret (sB false) []))))
 (.test (b==0)
 (.test (u5)
 (.test (u6)
 (.out (.ret (sB true) []))
 (.out (.ret (.p (.sc (.bool ((↑tg.length:Int)==0)))) [])))
 (.test (nn==0)
 (.test (u6)
 (.out (.ret (sB true) []))
 (.out (.ret (.p (.sc (.bool ((↑tg.length:Int)==0)))) [])))
 (.out (.ret (sB false) []))))
 (.out (.ret (sB false) []))))
 (.out (.ret (sB false) [])))))
 (.test (u3)
 (.test (u4)
 (.test (u5)
 (.test (u6)
 (.out (.ret (sB true) []))
 (.out (.ret (.p (.sc (.bool ((↑tg.length:Int)==0)))) [])))
 (.test (nn==0)
 (.test (u6)
 (.out (.ret (sB true) []))
 (.out (.ret (.p (.sc (.bool ((↑tg.length:Int)==0)))) [])))
 (.out (.ret (sB false) []))))
 (.test (b==0)
 (.test (u5)
 (.test (u6)
 (.out (.ret (sB true) []))
 (.out (.ret (.p (.sc (.bool ((↑tg.length:Int)==0)))) [])))
 (.test (nn==0)
 (.test (u6)
 (.out (.ret (sB true) []))
 (.out (.ret (.p (.sc (.bool ((↑tg.length:Int)==0)))) [])))
 (.out (.ret (sB false) []))))
 (.out (.ret (sB false) []))))
 (.test (a==0)
 (.test (u4)
 (.test (u5)
 (.test (u6)
 (.out (.ret (sB true) []))
 (.out (.ret (.p (.sc (.bool ((↑tg.length:Int)==0)))) [])))
 (.test (nn==0)
 (.test (u6)
 (.out (.ret (sB true) []))
 (.out (.ret (.p (.sc (.bool ((↑tg.length:Int)==0)))) [])))
 (.out (.ret (sB false) []))))
 (.test (b==0)
 (.test (u5)
 (.test (u6)
 (.out (.ret (sB true) []))
 (.out (.ret (.p (.sc (.bool ((↑tg.length:Int)==0)))) [])))
 (.test (nn==0)
 (.test (u6)
 (.out (.ret (sB true) []))
 (.out (.ret (.p (.sc (.bool ((↑tg.length:Int)==0)))) [])))
 (.out (.ret (sB false) []))))
 (.out (.ret (sB false) []))))
 (.out (.ret (sB false) [])))))))))))
theorem CA (op r a b nn:Int) (tg:List Int) (ll:List Ins) (le:List Ins) (s:ByteArray) (u1:Bool) (u2:Bool) (u3:Bool) (u4:Bool) (u5:Bool) (u6:Bool):bC Tryd.prog env (Gl op r a b nn tg ll le s u1 u2 u3 u4 u5 u6) 1000000 50 ([iV op r a b nn tg ll le]) ([]) IM=zE op r a b nn tg ll le s u1 u2 u3 u4 u5 u6:=by kernel_rfl
def nm (op:Int):ByteArray:=if op<0∨256≤op then⟨#[]⟩ else Ct.getD op.toNat ⟨#[]⟩
theorem AI (op:Int):aB Tryd.prog env 44 [sI .i64 op] [] (.p (.sc (.string (nm op)))) []:=by
 refine ak names (Cu op) ?_
 simp only[zy,Tree.ok,decide_eq_true_eq,decide_eq_false_iff_not]
 have hlen:(Ct.map fun s=>(AV.p (PV.sc (.string s)))).length=256:=by kernel_rfl
 refine⟨fun h=> ?_,fun h=>⟨fun h2=> ?_,fun h2=>⟨Gd,?_,?_,?_⟩⟩⟩
 · rw[nm,if_pos (.inl h)]
 · rw[nm,if_pos (.inr h2)]
 · simp[ep];omega
 · have hl:op.toNat<(Ct.map fun s=>(AV.p (PV.sc (.string s)))).length:=by rw[hlen];omega
   rw[Nat.mul_one,List.getD_eq_getElem?_getD,List.getElem?_eq_getElem hl,Option.getD_some,List.getElem_map,List.getD_eq_getElem?_getD,List.getElem?_eq_getElem (by simpa using hl),Option.getD_some]
 · rw[nm,if_neg (by omega)]
def eJ (op:Int):Bool:=decide (op=40∨op=44∨op=45∨op=46∨op=47∨op=54∨op=58∨op=59)
def lE (op:Int):Int:=if op=40∨op=54 then 2 else if op=46∨op=47∨op=59 then 1 else 0
def gw (op:Int):Bool:=decide (op=2∨op=3∨op=4)
def gR (op:Int):Bool:=decide (op=12∨op=13∨op=16∨op=17∨(32≤op∧op≤36))
theorem qP (op:Int):aB Tryd.prog env 53 [sI .i64 op] [] (.aO [sI .u32 (lE op),sB (eJ op)]) []:=by
 refine ak names (Cv op) ?_
 simp only[zz,Tree.ok,beq_iff_eq,beq_eq_false_iff_ne]
 repeat' first | apply And.intro | (intro h)
 all_goals first | assumption | (simp only[lE,eJ];simp_all;done)
theorem bP (op:Int):aB Tryd.prog env 67 [sI .i64 op] [] (.aO [sI .u32 (lE op),sB (eJ op)]) []:=by
 refine ak names (Cw op) ?_
 simp only[zA,Tree.ok,beq_iff_eq,beq_eq_false_iff_ne]
 repeat' first | apply And.intro | (intro h)
 all_goals first | assumption | (simp only[lE,eJ];simp_all;done)
theorem cq (op:Int):aB Tryd.prog env 68 [sI .i64 op] [] (sB (gw op)) []:=by
 refine ak names (Cx op) ?_
 simp only[zB,Tree.ok,beq_iff_eq,beq_eq_false_iff_ne]
 repeat' first | apply And.intro | (intro h)
 all_goals (simp only[gw];congr 4;rw[Bool.eq_iff_iff];simp only[beq_iff_eq,decide_eq_true_eq,true_iff];omega)
theorem dA (op:Int):aB Tryd.prog env 70 [sI .i64 op] [] (sB (gR op)) []:=by
 refine ak names (Cy op) ?_
 simp only[zC,Tree.ok,beq_iff_eq,beq_eq_false_iff_ne,decide_eq_true_eq,decide_eq_false_iff_not]
 repeat' first | apply And.intro | (intro h)
 all_goals (simp only[gR];congr 4;simp only[true_eq_decide_iff,false_eq_decide_iff,decide_eq_decide];omega)
def IN (op:Int):AV:= .agg [sB (gw op),sB (decide (op=4)),sB (eJ op||gR op||decide (op=14)),sB (eJ op),sB (decide (op=65)),sB (decide (op=14))]
theorem Gm {op:Int} {x1 x2 x3 x4 x5 x6:Bool} (h1:x1=true↔gw op=true) (h2:x2=true↔op=4) (h3:x3=true↔eJ op=true∨gR op=true∨op=14) (h4:x4=true↔eJ op=true) (h5:x5=true↔op=65) (h6:x6=true↔op=14) :
  Out.ret (.agg [.p (.sc (.bool x1)),.p (.sc (.bool x2)),.p (.sc (.bool x3)),.p (.sc (.bool x4)),.p (.sc (.bool x5)),.p (.sc (.bool x6))]) []=Out.ret (IN op) []:=by
 obtain rfl:x1=gw op:=Bool.eq_iff_iff.2 h1
 obtain rfl:x2=decide (op=4):=Bool.eq_iff_iff.2 (by rw[h2,decide_eq_true_eq])
 obtain rfl:x3=(eJ op||gR op||decide (op=14)):=Bool.eq_iff_iff.2 (by rw[h3,Bool.or_eq_true,Bool.or_eq_true,decide_eq_true_eq,or_assoc])
 obtain rfl:x4=eJ op:=Bool.eq_iff_iff.2 h4
 obtain rfl:x5=decide (op=65):=Bool.eq_iff_iff.2 (by rw[h5,decide_eq_true_eq])
 obtain rfl:x6=decide (op=14):=Bool.eq_iff_iff.2 (by rw[h6,decide_eq_true_eq])
 rfl
theorem mJ {op:Int}:eJ op=true↔(op=40∨op=44∨op=45∨op=46∨op=47∨op=54∨op=58∨op=59):=decide_eq_true_iff
theorem jQ {op:Int}:gw op=true↔(op=2∨op=3∨op=4):=decide_eq_true_iff
theorem wW {op:Int}:gR op=true↔(op=12∨op=13∨op=16∨op=17∨(32≤op∧op≤36)):=decide_eq_true_iff
set_option maxHeartbeats 2000000 in
theorem AJ (op:Int):aB Tryd.prog env 73 [sI .i64 op] [] (IN op) []:=by
 refine ak names (Cz op (lE op) (eJ op)) ?_
 simp only[zD,Tree.ok,beq_iff_eq,beq_eq_false_iff_ne]
 refine⟨qP op,?_⟩
 rw[←Bool.not_eq_true,mJ]
 repeat' first | apply And.intro | (intro h)
 all_goals first | assumption | (refine Gm ?_ ?_ ?_ ?_ ?_ ?_<;>simp only[mJ,jQ,wW,true_iff,Bool.false_eq_true,false_iff]<;>omega)
def nw (e0 u1 u2 u3 u4 u5 u6 e1 e2 e3 e4 e5 e6 e7 e8 e9:Bool):Bool:= !e0&&(!e1&&(!e2&&((u1 || !(e3||e4))&&((u2 || !e5)&&((u3||e6)&&((u4||e7)&&((u5||e8)&&(u6||e9))))))))
set_option maxHeartbeats 4000000 in
theorem Gn (op r a b nn:Int) (tg:List Int) (ll le:List Ins) (s:ByteArray) (u1 u2 u3 u4 u5 u6:Bool) (h1:aB Tryd.prog env 73 [sI .i64 op] [] (.agg [sB u1,sB u2,sB u3,sB u4,sB u5,sB u6]) []) (h2:aB Tryd.prog env 44 [sI .i64 op] [] (.p (.sc (.string s))) []) :
  aB Tryd.prog env 50 [iV op r a b nn tg ll le] [] (sB (nw (s.data.toList==(ByteArray.mk #[]).data.toList) u1 u2 u3 u4 u5 u6 (decide (r<0)) (decide (r>1)) (r != 0) (decide ((ll.length:Int)>0)) (decide ((le.length:Int)>0)) (a==0) (b==0) (nn==0) ((tg.length:Int)==0))) []:=by
 refine ak names (CA op r a b nn tg ll le s u1 u2 u3 u4 u5 u6) ?_
 simp only[zE,Tree.ok]
 refine⟨h1,h2,?_⟩
 generalize (s.data.toList==(ByteArray.mk #[]).data.toList)=e0
 generalize decide (r<0)=e1
 generalize decide (r>1)=e2
 generalize (r != 0)=e3
 generalize decide ((ll.length:Int)>0)=e4
 generalize decide ((le.length:Int)>0)=e5
 generalize (a==0)=e6
 generalize (b==0)=e7
 generalize (nn==0)=e8
 generalize ((tg.length:Int)==0)=e9
 cases e0
 case true=>simp[nw]
 cases e1
 case true=>simp[nw]
 cases e2
 case true=>simp[nw]
 cases u1<;>cases e3<;>cases e4<;>(try (simp[nw];done))<;>cases u2<;>cases e5<;>(try (simp[nw];done))<;>cases u3<;>cases e6<;>(try (simp[nw];done))<;>cases u4<;>cases e7<;>(try (simp[nw];done))<;>cases u5<;>cases e8<;>(try (simp[nw];done))<;>cases u6<;>simp[nw]
end Go.Proofs.YtddfgnmjecogdaaDoor.N
end
section
namespace Go.Proofs.YtddfgnmjecogdaaDoor.N
open Go Go.Am
def KN (_op _r _a _b _nn:Int) (_tg:List Int) (_ll _le:List Ins) (s:ByteArray) (n:Int) (st li wh:Bool) (f:FuncId) (_:List AV) (_:Mem):Option (AV×Mem):=cond (Nat.beq f 47) (some (.p (.sc (.string s)),[])) (cond (Nat.beq f 67) (some (.aO [sI .u32 n,sB st],[])) (cond (Nat.beq f 68) (some (sB li,[])) (cond (Nat.beq f 70) (some (sB wh,[])) none)))
noncomputable def Gp (op r a b nn:Int) (tg:List Int) (ll:List Ins) (le:List Ins) (s:ByteArray) (n:Int) (st:Bool) (li:Bool) (wh:Bool):dR:=cr (KN op r a b nn tg ll le s n st li wh) aW [] [(76,3,5),(76,3,10),(76,3,15),(76,3,19),(76,3,26),(76,3,31),(76,3,38),(76,3,43),(76,0,0),(76,5,5),(76,5,10),(76,5,14),(76,5,20),(76,5,24),(76,0,1),(76,7,4),(76,7,7),(76,7,12)] []
def IP:Sc:=(.fork (.lit (.lit (.lit (.lit (.lit .fin))))) (.fork (.lit (.lit (.lit (.lit .fin)))) (.fork (.lit (.lit (.lit .fin))) (.fork (.fork (.lit (.lit .fin)) (.fork (.no (.fork (.fork .fin (.fork (.yes (.lit (.lit .fin))) (.lit (.fork (.yes (.lit .fin)) (.lit (.fork (.fork .fin (.fork (.lit (.lit .fin)) (.yes (.lit .fin)))) (.lit (.fork (.lit (.lit .fin)) (.fork (.lit .fin) .fin))))))))) (.lit (.fork (.fork (.lit (.lit .fin)) (.fork (.yes (.lit .fin)) (.lit (.fork (.fork .fin (.fork (.lit (.lit .fin)) (.yes (.lit .fin)))) (.lit (.fork (.lit (.lit .fin)) (.fork (.lit .fin) .fin))))))) (.lit (.fork (.fork (.lit .fin) (.fork (.fork .fin (.fork (.lit (.lit .fin)) (.yes (.lit .fin)))) (.lit (.fork (.lit (.lit .fin)) (.fork (.lit .fin) .fin))))) (.lit (.fork (.fork .fin (.fork (.lit (.lit .fin)) (.yes (.lit .fin)))) (.lit (.fork (.lit (.lit .fin)) (.fork (.lit .fin) .fin))))))))))) (.lit (.fork (.fork .fin (.fork (.yes (.lit (.lit .fin))) (.lit (.fork (.yes (.lit .fin)) (.lit (.fork (.fork .fin (.fork (.lit (.lit .fin)) (.yes (.lit .fin)))) (.lit (.fork (.lit (.lit .fin)) (.fork (.lit .fin) .fin))))))))) (.lit (.fork (.fork (.lit (.lit .fin)) (.fork (.yes (.lit .fin)) (.lit (.fork (.fork .fin (.fork (.lit (.lit .fin)) (.yes (.lit .fin)))) (.lit (.fork (.lit (.lit .fin)) (.fork (.lit .fin) .fin))))))) (.lit (.fork (.fork (.lit .fin) (.fork (.fork .fin (.fork (.lit (.lit .fin)) (.yes (.lit .fin)))) (.lit (.fork (.lit (.lit .fin)) (.fork (.lit .fin) .fin))))) (.lit (.fork (.fork .fin (.fork (.lit (.lit .fin)) (.yes (.lit .fin)))) (.lit (.fork (.lit (.lit .fin)) (.fork (.lit .fin) .fin))))))))))))) (.lit (.fork (.fork (.lit .fin) (.fork (.fork .fin (.fork (.yes (.lit (.lit .fin))) (.lit (.fork (.yes (.lit .fin)) (.lit (.fork (.fork .fin (.fork (.lit (.lit .fin)) (.yes (.lit .fin)))) (.lit (.fork (.lit (.lit .fin)) (.fork (.lit .fin) .fin))))))))) (.lit (.fork (.fork (.lit (.lit .fin)) (.fork (.yes (.lit .fin)) (.lit (.fork (.fork .fin (.fork (.lit (.lit .fin)) (.yes (.lit .fin)))) (.lit (.fork (.lit (.lit .fin)) (.fork (.lit .fin) .fin))))))) (.lit (.fork (.fork (.lit .fin) (.fork (.fork .fin (.fork (.lit (.lit .fin)) (.yes (.lit .fin)))) (.lit (.fork (.lit (.lit .fin)) (.fork (.lit .fin) .fin))))) (.lit (.fork (.fork .fin (.fork (.lit (.lit .fin)) (.yes (.lit .fin)))) (.lit (.fork (.lit (.lit .fin)) (.fork (.lit .fin) .fin))))))))))) (.lit (.fork (.fork .fin (.fork (.yes (.lit (.lit .fin))) (.lit (.fork (.yes (.lit .fin)) (.lit (.fork (.fork .fin (.fork (.lit (.lit .fin)) (.yes (.lit .fin)))) (.lit (.fork (.lit (.lit .fin)) (.fork (.lit .fin) .fin))))))))) (.lit (.fork (.fork (.lit (.lit .fin)) (.fork (.yes (.lit .fin)) (.lit (.fork (.fork .fin (.fork (.lit (.lit .fin)) (.yes (.lit .fin)))) (.lit (.fork (.lit (.lit .fin)) (.fork (.lit .fin) .fin))))))) (.lit (.fork (.fork (.lit .fin) (.fork (.fork .fin (.fork (.lit (.lit .fin)) (.yes (.lit .fin)))) (.lit (.fork (.lit (.lit .fin)) (.fork (.lit .fin) .fin))))) (.lit (.fork (.fork .fin (.fork (.lit (.lit .fin)) (.yes (.lit .fin)))) (.lit (.fork (.lit (.lit .fin)) (.fork (.lit .fin) .fin)))))))))))))))))
noncomputable def zF (op r a b nn:Int) (tg:List Int) (ll:List Ins) (le:List Ins) (s:ByteArray) (n:Int) (st:Bool) (li:Bool) (wh:Bool):Tree:=
 (.call ⟨67,[sI .i64 op],[],.aO [sI .u32 n,.p (.sc (.bool st))],[]⟩
 (.call ⟨47,[sI .i64 op],[],.p (.sc (.string s)),[]⟩
 (.test (s.data.toList==(ByteArray.mk #[]).data.toList)
 (.out (.ret (sB false) []))
 (.test (decide (r<0))
 (.out (.ret (sB false) []))
 (.test (decide (r>1))
 (.out (.ret (sB false) []))
 (.test (decide (r>0))
 (.call ⟨68,[sI .i64 op],[],.p (.sc (.bool li)),[]⟩
 (.test (!li)
 (.out (.ret (sB false) []))
 (.test (decide ((↑ll.length:Int)>0))
 (.call ⟨68,[sI .i64 op],[],.p (.sc (.bool li)),[]⟩
 (.must (!(!li))
 (.test (decide ((↑le.length:Int)>0))
 (.test (op != 4)
 (.out (.ret (sB false) []))
 (.test (decide ((↑tg.length:Int)>0))
 (.must (op != 14)
 (.out (.ret (sB false) [])))
 (.test (nn != 0)
 (.must (op != 65)
 (.out (.ret (sB false) [])))
 (.test (b != 0)
 (.test (!st)
 (.out (.ret (sB false) []))
 (.test (a==0)
 (.out (.ret (sB true) []))
 (.must (st)
 (.out (.ret (sB true) [])))))
 (.test (a==0)
 (.out (.ret (sB true) []))
 (.test (st)
 (.out (.ret (sB true) []))
 (.call ⟨70,[sI .i64 op],[],.p (.sc (.bool wh)),[]⟩
 (.test (wh)
 (.out (.ret (sB true) []))
 (.out (.ret (.p (.sc (.bool (op==14)))) []))))))))))
 (.test (decide ((↑tg.length:Int)>0))
 (.test (op != 14)
 (.out (.ret (sB false) []))
 (.test (nn != 0)
 (.must (op != 65)
 (.out (.ret (sB false) [])))
 (.test (b != 0)
 (.test (!st)
 (.out (.ret (sB false) []))
 (.test (a==0)
 (.out (.ret (sB true) []))
 (.must (st)
 (.out (.ret (sB true) [])))))
 (.test (a==0)
 (.out (.ret (sB true) []))
 (.test (st)
 (.out (.ret (sB true) []))
 (.call ⟨70,[sI .i64 op],[],.p (.sc (.bool wh)),[]⟩
 (.test (wh)
 (.out (.ret (sB true) []))
 (.out (.ret (.p (.sc (.bool (op==14)))) [])))))))))
 (.test (nn != 0)
 (.test (op != 65)
 (.out (.ret (sB false) []))
 (.test (b != 0)
 (.test (!st)
 (.out (.ret (sB false) []))
 (.test (a==0)
 (.out (.ret (sB true) []))
 (.must (st)
 (.out (.ret (sB true) [])))))
 (.test (a==0)
 (.out (.ret (sB true) []))
 (.test (st)
 (.out (.ret (sB true) []))
 (.call ⟨70,[sI .i64 op],[],.p (.sc (.bool wh)),[]⟩
 (.test (wh)
 (.out (.ret (sB true) []))
 (.out (.ret (.p (.sc (.bool (op==14)))) []))))))))
 (.test (b != 0)
 (.test (!st)
 (.out (.ret (sB false) []))
 (.test (a==0)
 (.out (.ret (sB true) []))
 (.must (st)
 (.out (.ret (sB true) [])))))
 (.test (a==0)
 (.out (.ret (sB true) []))
 (.test (st)
 (.out (.ret (sB true) []))
 (.call ⟨70,[sI .i64 op],[],.p (.sc (.bool wh)),[]⟩
 (.test (wh)
 (.out (.ret (sB true) []))
 (.out (.ret (.p (.sc (.bool (op==14)))) []))))))))))))
 (.test (decide ((↑le.length:Int)>0))
 (.test (op != 4)
 (.out (.ret (sB false) []))
 (.test (decide ((↑tg.length:Int)>0))
 (.must (op != 14)
 (.out (.ret (sB false) [])))
 (.test (nn != 0)
 (.must (op != 65)
 (.out (.ret (sB false) [])))
 (.test (b != 0)
 (.test (!st)
 (.out (.ret (sB false) []))
 (.test (a==0)
 (.out (.ret (sB true) []))
 (.must (st)
 (.out (.ret (sB true) [])))))
 (.test (a==0)
 (.out (.ret (sB true) []))
 (.test (st)
 (.out (.ret (sB true) []))
 (.call ⟨70,[sI .i64 op],[],.p (.sc (.bool wh)),[]⟩
 (.test (wh)
 (.out (.ret (sB true) []))
 (.out (.ret (.p (.sc (.bool (op==14)))) []))))))))))
 (.test (decide ((↑tg.length:Int)>0))
 (.test (op != 14)
 (.out (.ret (sB false) []))
 (.test (nn != 0)
 (.must (op != 65)
 (.out (.ret (sB false) [])))
 (.test (b != 0)
 (.test (!st)
 (.out (.ret (sB false) []))
 (.test (a==0)
 (.out (.ret (sB true) []))
 (.must (st)
 (.out (.ret (sB true) [])))))
 (.test (a==0)
 (.out (.ret (sB true) []))
 (.test (st)
 (.out (.ret (sB true) []))
 (.call ⟨70,[sI .i64 op],[],.p (.sc (.bool wh)),[]⟩
 (.test (wh)
 (.out (.ret (sB true) []))
 (.out (.ret (.p (.sc (.bool (op==14)))) [])))))))))
 (.test (nn != 0)
 (.test (op != 65)
 (.out (.ret (sB false) []))
 (.test (b != 0)
 (.test (!st)
 (.out (.ret (sB false) []))
 (.test (a==0)
 (.out (.ret (sB true) []))
 (.must (st)
 (.out (.ret (sB true) [])))))
 (.test (a==0)
 (.out (.ret (sB true) []))
 (.test (st)
 (.out (.ret (sB true) []))
 (.call ⟨70,[sI .i64 op],[],.p (.sc (.bool wh)),[]⟩
 (.test (wh)
 (.out (.ret (sB true) []))
 (.out (.ret (.p (.sc (.bool (op==14)))) []))))))))
 (.test (b != 0)
 (.test (!st)
 (.out (.ret (sB false) []))
 (.test (a==0)
 (.out (.ret (sB true) []))
 (.must (st)
 (.out (.ret (sB true) [])))))
 (.test (a==0)
 (.out (.ret (sB true) []))
 (.test (st)
 (.out (.ret (sB true) []))
 (.call ⟨70,[sI .i64 op],[],.p (.sc (.bool wh)),[]⟩
 (.test (wh)
 (.out (.ret (sB true) []))
 (.out (.ret (.p (.sc (.bool (op==14)))) [])))))))))))))
 (.test (decide ((↑ll.length:Int)>0))
 (.call ⟨68,[sI .i64 op],[],.p (.sc (.bool li)),[]⟩
 (.test (!li)
 (.out (.ret (sB false) []))
 (.test (decide ((↑le.length:Int)>0))
 (.test (op != 4)
 (.out (.ret (sB false) []))
 (.test (decide ((↑tg.length:Int)>0))
 (.must (op != 14)
 (.out (.ret (sB false) [])))
 (.test (nn != 0)
 (.must (op != 65)
 (.out (.ret (sB false) [])))
 (.test (b != 0)
 (.test (!st)
 (.out (.ret (sB false) []))
 (.test (a==0)
 (.out (.ret (sB true) []))
 (.must (st)
 (.out (.ret (sB true) [])))))
 (.test (a==0)
 (.out (.ret (sB true) []))
 (.test (st)
 (.out (.ret (sB true) []))
 (.call ⟨70,[sI .i64 op],[],.p (.sc (.bool wh)),[]⟩
 (.test (wh)
 (.out (.ret (sB true) []))
 (.out (.ret (.p (.sc (.bool (op==14)))) []))))))))))
 (.test (decide ((↑tg.length:Int)>0))
 (.test (op != 14)
 (.out (.ret (sB false) []))
 (.test (nn != 0)
 (.must (op != 65)
 (.out (.ret (sB false) [])))
 (.test (b != 0)
 (.test (!st)
 (.out (.ret (sB false) []))
 (.test (a==0)
 (.out (.ret (sB true) []))
 (.must (st)
 (.out (.ret (sB true) [])))))
 (.test (a==0)
 (.out (.ret (sB true) []))
 (.test (st)
 (.out (.ret (sB true) []))
 (.call ⟨70,[sI .i64 op],[],.p (.sc (.bool wh)),[]⟩
 (.test (wh)
 (.out (.ret (sB true) []))
 (.out (.ret (.p (.sc (.bool (op==14)))) [])))))))))
 (.test (nn != 0)
 (.test (op != 65)
 (.out (.ret (sB false) []))
 (.test (b != 0)
 (.test (!st)
 (.out (.ret (sB false) []))
 (.test (a==0)
 (.out (.ret (sB true) []))
 (.must (st)
 (.out (.ret (sB true) [])))))
 (.test (a==0)
 (.out (.ret (sB true) []))
 (.test (st)
 (.out (.ret (sB true) []))
 (.call ⟨70,[sI .i64 op],[],.p (.sc (.bool wh)),[]⟩
 (.test (wh)
 (.out (.ret (sB true) []))
 (.out (.ret (.p (.sc (.bool (op==14)))) []))))))))
 (.test (b != 0)
 (.test (!st)
 (.out (.ret (sB false) []))
 (.test (a==0)
 (.out (.ret (sB true) []))
 (.must (st)
 (.out (.ret (sB true) [])))))
 (.test (a==0)
 (.out (.ret (sB true) []))
 (.test (st)
 (.out (.ret (sB true) []))
 (.call ⟨70,[sI .i64 op],[],.p (.sc (.bool wh)),[]⟩
 (.test (wh)
 (.out (.ret (sB true) []))
 (.out (.ret (.p (.sc (.bool (op==14)))) []))))))))))))
 (.test (decide ((↑le.length:Int)>0))
 (.test (op != 4)
 (.out (.ret (sB false) []))
 (.test (decide ((↑tg.length:Int)>0))
 (.must (op != 14)
 (.out (.ret (sB false) [])))
 (.test (nn != 0)
 (.must (op != 65)
 (.out (.ret (sB false) [])))
 (.test (b != 0)
 (.test (!st)
 (.out (.ret (sB false) []))
 (.test (a==0)
 (.out (.ret (sB true) []))
 (.must (st)
 (.out (.ret (sB true) [])))))
 (.test (a==0)
 (.out (.ret (sB true) []))
 (.test (st)
 (.out (.ret (sB true) []))
 (.call ⟨70,[sI .i64 op],[],.p (.sc (.bool wh)),[]⟩
 (.test (wh)
 (.out (.ret (sB true) []))
 (.out (.ret (.p (.sc (.bool (op==14)))) []))))))))))
 (.test (decide ((↑tg.length:Int)>0))
 (.test (op != 14)
 (.out (.ret (sB false) []))
 (.test (nn != 0)
 (.must (op != 65)
 (.out (.ret (sB false) [])))
 (.test (b != 0)
 (.test (!st)
 (.out (.ret (sB false) []))
 (.test (a==0)
 (.out (.ret (sB true) []))
 (.must (st)
 (.out (.ret (sB true) [])))))
 (.test (a==0)
 (.out (.ret (sB true) []))
 (.test (st)
 (.out (.ret (sB true) []))
 (.call ⟨70,[sI .i64 op],[],.p (.sc (.bool wh)),[]⟩
 (.test (wh)
 (.out (.ret (sB true) []))
 (.out (.ret (.p (.sc (.bool (op==14)))) [])))))))))
 (.test (nn != 0)
 (.test (op != 65)
 (.out (.ret (sB false) []))
 (.test (b != 0)
 (.test (!st)
 (.out (.ret (sB false) []))
 (.test (a==0)
 (.out (.ret (sB true) []))
 (.must (st)
 (.out (.ret (sB true) [])))))
 (.test (a==0)
 (.out (.ret (sB true) []))
 (.test (st)
 (.out (.ret (sB true) []))
 (.call ⟨70,[sI .i64 op],[],.p (.sc (.bool wh)),[]⟩
 (.test (wh)
 (.out (.ret (sB true) []))
 (.out (.ret (.p (.sc (.bool (op==14)))) []))))))))
 (.test (b != 0)
 (.test (!st)
 (.out (.ret (sB false) []))
 (.test (a==0)
 (.out (.ret (sB true) []))
 (.must (st)
 (.out (.ret (sB true) [])))))
 (.test (a==0)
 (.out (.ret (sB true) []))
 (.test (st)
 (.out (.ret (sB true) []))
 (.call ⟨70,[sI .i64 op],[],.p (.sc (.bool wh)),[]⟩
 (.test (wh)
 (.out (.ret (sB true) []))
 (.out (.ret (.p (.sc (.bool (op==14)))) [])))))))))))))))))
theorem CB (op r a b nn:Int) (tg:List Int) (ll:List Ins) (le:List Ins) (s:ByteArray) (n:Int) (st:Bool) (li:Bool) (wh:Bool):bC Tryd.prog env (Gp op r a b nn tg ll le s n st li wh) 1000000 76 ([iV op r a b nn tg ll le]) ([]) IP=zF op r a b nn tg ll le s n st li wh:=by kernel_rfl
def eY (e0 e1 e2 e3 e4 e5 li n4 e6 Dl e8 CC e7 st a0 wh:Bool):Bool:=
 !e0&&(!e1&&(!e2&&(!(e3 && !li)&&(!(e4 && !li)&&(!(e5&&n4)&&(!(e6&&Dl)&&(!(e8&&CC)&&(!(e7 && !st)&&(a0||(st||(wh || !Dl)))))))))))
set_option maxHeartbeats 8000000 in
theorem Gq (op r a b nn:Int) (tg:List Int) (ll le:List Ins) (s:ByteArray) (n:Int) (st li wh:Bool) (h1:aB Tryd.prog env 67 [sI .i64 op] [] (.aO [sI .u32 n,sB st]) []) (h2:aB Tryd.prog env 47 [sI .i64 op] [] (.p (.sc (.string s))) [])
  (h3:aB Tryd.prog env 68 [sI .i64 op] [] (sB li) []) (h4:aB Tryd.prog env 70 [sI .i64 op] [] (sB wh) []) :
  aB Tryd.prog env 76 [iV op r a b nn tg ll le] [] (sB (eY (s.data.toList==(ByteArray.mk #[]).data.toList) (decide (r<0)) (decide (r>1)) (decide (r>0)) (decide ((ll.length:Int)>0)) (decide ((le.length:Int)>0)) li (op != 4) (decide ((tg.length:Int)>0)) (op != 14) (nn != 0) (op != 65) (b != 0) st (a==0) wh)) []:=by
 refine ak names (CB op r a b nn tg ll le s n st li wh) ?_
 simp only[zF,Tree.ok]
 have LG:(op==14) = !(op != 14):=by simp[bne]
 simp only[LG]
 have c1:(op != 14)=false→(op != 65)=true:=by simp only[bne_eq_false_iff_eq,bne_iff_ne,ne_eq];omega
 have c2:(op != 4)=false→(op != 14)=true:=by simp only[bne_eq_false_iff_eq,bne_iff_ne,ne_eq];omega
 have c3:(op != 4)=false→(op != 65)=true:=by simp only[bne_eq_false_iff_eq,bne_iff_ne,ne_eq];omega
 clear LG
 generalize (s.data.toList==(ByteArray.mk #[]).data.toList)=e0
 generalize decide (r<0)=e1
 generalize decide (r>1)=e2
 generalize decide (r>0)=e3
 generalize decide ((ll.length:Int)>0)=e4
 generalize decide ((le.length:Int)>0)=e5
 generalize (op != 4)=n4 at c2 c3 ⊢
 generalize decide ((tg.length:Int)>0)=e6
 generalize (op != 14)=Dl at c1 c2 ⊢
 generalize (nn != 0)=e8
 generalize (op != 65)=CC at c1 c3 ⊢
 generalize (b != 0)=e7
 generalize (a==0)=a0
 refine⟨h1,h2,?_⟩
 cases e0
 case true=>simp[eY]
 cases e1
 case true=>simp[eY]
 cases e2
 case true=>simp[eY]
 cases n4
 case false=>
  obtain rfl:=c2 rfl
  obtain rfl:=c3 rfl
  clear c1 c2 c3
  cases e3<;>cases li<;>(try (simp[eY,h3];done))<;>cases e4<;>(try (simp[eY,h3];done))<;>cases e5<;>cases e6<;>(try (simp[eY,h3];done))<;>cases e8<;>(try (simp[eY,h3];done))<;>cases e7<;>cases st<;>(try (simp[eY,h3];done))<;>cases a0<;>(try (simp[eY,h3];done))<;>cases wh<;>simp[eY,h3,h4]
 clear c2 c3
 cases Dl
 case false=>
  obtain rfl:=c1 rfl
  clear c1
  cases e3<;>cases li<;>(try (simp[eY,h3];done))<;>cases e4<;>(try (simp[eY,h3];done))<;>cases e5<;>(try (simp[eY,h3];done))<;>cases e6<;>cases e8<;>(try (simp[eY,h3];done))<;>cases e7<;>cases st<;>(try (simp[eY,h3];done))<;>cases a0<;>(try (simp[eY,h3];done))<;>cases wh<;>simp[eY,h3,h4]
 clear c1
 cases e3<;>cases li<;>(try (simp[eY,h3];done))<;>cases e4<;>(try (simp[eY,h3];done))<;>cases e5<;>(try (simp[eY,h3];done))<;>cases e6<;>(try (simp[eY,h3];done))<;>cases e8<;>cases CC<;>(try (simp[eY,h3];done))<;>cases e7<;>cases st<;>(try (simp[eY,h3];done))<;>cases a0<;>(try (simp[eY,h3];done))<;>cases wh<;>simp[eY,h3,h4]
end Go.Proofs.YtddfgnmjecogdaaDoor.N
end
section
namespace Go.Proofs.YtddfgnmjecogdaaDoor.N
open Go Go.Am
noncomputable def Gr:dR:=cr bk aW [] [(47,3,3),(47,6,3),(66,0,0),(66,0,1),(66,0,2),(66,0,3),(66,0,4),(66,0,5),(66,0,6),(66,0,7),(66,0,8),(66,0,9),(66,0,10),(66,0,11),(66,0,12),(84,0,0),(84,0,1),(84,0,2),(84,0,3),(84,0,4),(84,0,5),(84,0,6),(84,0,7),(84,0,8),(84,0,9),(84,0,10),(84,0,11),(84,0,12),(84,0,13),(84,0,14),(84,0,15)] []
def IQ:Sc:=(.no (.no (.no (.no (.no (.no (.no (.no (.no (.no (.no (.no (.no (.no (.no (.no (.no (.no (.no (.no (.no (.no (.no (.no (.no (.no (.no (.no (.no (.no (.no .fin)))))))))))))))))))))))))))))))
noncomputable def zG (op:Int):Tree:=
 (.must (!(decide (op≥69)))
 (.must (!(decide (op≥103)))
 (.must (!(op==0))
 (.must (!(op==1))
 (.must (!(op==2))
 (.must (!(op==3))
 (.must (!(op==4))
 (.must (!(op==12))
 (.must (!(op==13))
 (.must (!(op==14))
 (.must (!(op==15))
 (.must (!(op==16))
 (.must (!(op==17))
 (.must (!(op==26))
 (.must (!(op==27))
 (.must (!(op==32))
 (.must (!(op==33))
 (.must (!(op==34))
 (.must (!(op==35))
 (.must (!(op==36))
 (.must (!(op==40))
 (.must (!(op==44))
 (.must (!(op==45))
 (.must (!(op==46))
 (.must (!(op==47))
 (.must (!(op==54))
 (.must (!(op==58))
 (.must (!(op==59))
 (.must (!(op==63))
 (.must (!(op==64))
 (.must (!(op==65))
 (.out (.ret (.p (.sc (.string (ByteArray.mk #[])))) [])))))))))))))))))))))))))))))))))
theorem CD (op:Int):bC Tryd.prog env Gr 1000000 47 ([sI IntKind.i64 op]) ([]) IQ=zG op:=by kernel_rfl
noncomputable def Gs:dR:=cr bk aW [] [(47,3,3),(47,0,0),(47,6,3),(47,0,1),(66,0,0),(66,0,1),(66,0,2),(66,0,3),(66,0,4),(66,0,5),(66,0,6),(66,0,7),(66,0,8),(66,0,9),(66,0,10),(66,0,11),(66,0,12),(84,0,0),(84,0,1),(84,0,2),(84,0,3),(84,0,4),(84,0,5),(84,0,6),(84,0,7),(84,0,8),(84,0,9),(84,0,10),(84,0,11),(84,0,12),(84,0,13),(84,0,14),(84,0,15)] []
def IS:Sc:=(.yes (.no (.yes (.no (.no (.no (.no (.no (.no (.no (.no (.no (.no (.no (.no (.no (.no (.no (.no (.no (.no (.no (.no (.no (.no (.no (.no (.no (.no (.no (.no (.no (.no .fin)))))))))))))))))))))))))))))))))
noncomputable def zH (op:Int):Tree:=
 (.must (decide (op≥69))
 (.must (!(decide (op≤79)))
 (.must (decide (op≥103))
 (.must (!(decide (op≤120)))
 (.must (!(op==0))
 (.must (!(op==1))
 (.must (!(op==2))
 (.must (!(op==3))
 (.must (!(op==4))
 (.must (!(op==12))
 (.must (!(op==13))
 (.must (!(op==14))
 (.must (!(op==15))
 (.must (!(op==16))
 (.must (!(op==17))
 (.must (!(op==26))
 (.must (!(op==27))
 (.must (!(op==32))
 (.must (!(op==33))
 (.must (!(op==34))
 (.must (!(op==35))
 (.must (!(op==36))
 (.must (!(op==40))
 (.must (!(op==44))
 (.must (!(op==45))
 (.must (!(op==46))
 (.must (!(op==47))
 (.must (!(op==54))
 (.must (!(op==58))
 (.must (!(op==59))
 (.must (!(op==63))
 (.must (!(op==64))
 (.must (!(op==65))
 (.out (.ret (.p (.sc (.string (ByteArray.mk #[])))) [])))))))))))))))))))))))))))))))))))
theorem CE (op:Int):bC Tryd.prog env Gs 1000000 47 ([sI IntKind.i64 op]) ([]) IS=zH op:=by kernel_rfl
noncomputable def iS (n:Nat):Bool:=
 match uV Tryd.prog env [] 100000 47 [sI .i64 n] [] with
 |some (.ret v m)=>lN v (.p (.sc (.string (Ct.getD n ⟨#[]⟩))))&&lO m []
 |_=>false
theorem Gt:(List.range' 0 32).all iS=true:=by kernel_rfl
theorem Gu:(List.range' 32 32).all iS=true:=by kernel_rfl
theorem Gv:(List.range' 64 32).all iS=true:=by kernel_rfl
theorem Gw:(List.range' 96 32).all iS=true:=by kernel_rfl
theorem Gx:(List.range' 128 32).all iS=true:=by kernel_rfl
theorem Gy:(List.range' 160 32).all iS=true:=by kernel_rfl
theorem Gz:(List.range' 192 32).all iS=true:=by kernel_rfl
theorem GA:(List.range' 224 32).all iS=true:=by kernel_rfl
theorem AK {n:Nat} (h:n<256):iS n=true:=by
 have get : ∀a,(List.range' a 32).all iS=true→a≤n→n<a+32→iS n=true:=fun a ha h1 h2=>List.all_eq_true.1 ha n (List.mem_range'_1.2 ⟨h1,h2⟩)
 rcases Nat.lt_or_ge n 32 with q | q
 · exact get 0 Gt (by omega) (by omega)
 rcases Nat.lt_or_ge n 64 with q | q
 · exact get 32 Gu (by omega) (by omega)
 rcases Nat.lt_or_ge n 96 with q | q
 · exact get 64 Gv (by omega) (by omega)
 rcases Nat.lt_or_ge n 128 with q | q
 · exact get 96 Gw (by omega) (by omega)
 rcases Nat.lt_or_ge n 160 with q | q
 · exact get 128 Gx (by omega) (by omega)
 rcases Nat.lt_or_ge n 192 with q | q
 · exact get 160 Gy (by omega) (by omega)
 rcases Nat.lt_or_ge n 224 with q | q
 · exact get 192 Gz (by omega) (by omega)
 · exact get 224 GA (by omega) (by omega)
theorem yC (op:Int):aB Tryd.prog env 47 [sI .i64 op] [] (.p (.sc (.string (nm op)))) []:=by
 by_cases h0:op<0
 · refine ak names (CD op) ?_
   rw[nm,if_pos (.inl h0)]
   simp only[zG,Tree.ok,Bool.not_eq_true',beq_eq_false_iff_ne,decide_eq_false_iff_not]
   repeat' first | exact True.intro | exact rfl | apply And.intro
   all_goals omega
 · by_cases h1:256≤op
   · refine ak names (CE op) ?_
     rw[nm,if_pos (.inr h1)]
     simp only[zH,Tree.ok,Bool.not_eq_true',beq_eq_false_iff_ne,decide_eq_false_iff_not,decide_eq_true_eq]
     repeat' first | exact True.intro | exact rfl | apply And.intro
     all_goals omega
   · obtain⟨n,rfl⟩:=Int.eq_ofNat_of_zero_le (by omega:0≤op)
     have hr:=AK (n:=n) (by omega)
     unfold iS at hr
     split at hr
     · rename_i v m hx
       rw[Bool.and_eq_true] at hr
       rw[gF hr.1,gX hr.2] at hx
       rw[nm,if_neg (by omega)]
       exact cX names hY hx
     · cases hr
def eL:Ins→Bool
 |.mk op r a b nn tg ll le=>nw ((nm op).data.toList==(ByteArray.mk #[]).data.toList) (gw op) (decide (op=4)) (eJ op||gR op||decide (op=14)) (eJ op) (decide (op=65)) (decide (op=14)) (decide (r<0)) (decide (r>1)) (r != 0) (decide ((ll.length:Int)>0)) (decide ((le.length:Int)>0)) (a==0) (b==0) (nn==0) ((tg.length:Int)==0)
theorem AL (x:Ins):aB Tryd.prog env 50 [AA x] [] (sB (eL x)) []:=by
 obtain⟨op,r,a,b,nn,tg,ll,le⟩:=x
 exact Gn op r a b nn tg ll le (nm op) _ _ _ _ _ _ (AJ op) (AI op)
theorem AM : ∀e0 e1 e2 e3 e4 e5 li n4 e6 Dl e8 CC e7 st a0 wh:Bool,(e1=true→e3=false)→nw e0 li (!n4) (st||wh || !Dl) st (!CC) (!Dl) e1 e2 (e1||e3) e4 e5 a0 (!e7) (!e8) (!e6)=eY e0 e1 e2 e3 e4 e5 li n4 e6 Dl e8 CC e7 st a0 wh:=by
 intro e0 e1 e2 e3 e4 e5 li n4 e6 Dl e8 CC e7 st a0 wh
 cases e0
 case true=>intro _;rfl
 cases e1
 case true=>intro _;rfl
 cases e2
 case true=>intro _;rfl
 intro _
 revert e3 e4 e5 li n4 e6 Dl e8 CC e7 st a0 wh
 decide +kernel
theorem wX (x:Ins):aB Tryd.prog env 76 [AA x] [] (sB (eL x)) []:=by
 obtain⟨op,r,a,b,nn,tg,ll,le⟩:=x
 have h:=Gq op r a b nn tg ll le (nm op) _ _ _ _ (bP op) (yC op) (cq op) (dA op)
 rw[←AM] at h
 · have e1:(!(op != 4))=decide (op=4):=by rw[Bool.eq_iff_iff];simp
   have e2:(!(op != 14))=decide (op=14):=by rw[Bool.eq_iff_iff];simp
   have e3:(!(op != 65))=decide (op=65):=by rw[Bool.eq_iff_iff];simp
   have e4:(!(b != 0))=(b==0):=by simp[bne]
   have e5:(!(nn != 0))=(nn==0):=by simp[bne]
   have e6:(!decide ((tg.length:Int)>0))=((tg.length:Int)==0):=by rw[Bool.eq_iff_iff,Bool.not_eq_true',decide_eq_false_iff_not,beq_iff_eq];omega
   have e7:(decide (r<0)||decide (r>0))=(r != 0):=by rw[Bool.eq_iff_iff,Bool.or_eq_true,decide_eq_true_eq,decide_eq_true_eq,bne_iff_ne];omega
   rw[e1,e2,e3,e4,e5,e6,e7] at h
   exact h
 · intro q;rw[decide_eq_true_eq] at q;rw[decide_eq_false_iff_not];omega
end Go.Proofs.YtddfgnmjecogdaaDoor.N
end
section
namespace Go.Am
theorem ko {Q:List Ins→Prop} (h : ∀l,(∀x∈l,Q x.l∧Q x.e)→Q l) : ∀l,Q l:=by
 have key : ∀(N:Nat) (l:List Ins),bf l≤N→Q l:=by
  intro N
  induction N with
  |zero=>
   intro l hl
   cases l with
   |nil=>exact h [] (fun _ hx=>by cases hx)
   |cons x r=>cases x;simp only[bf,kB] at hl;omega
  |succ N ih=>
   intro l hl
   refine h l fun x hx=> ?_
   have hn:kB x≤bf l:=by
    clear hl
    induction l with
    |nil=>cases hx
    |cons y r ih2=>
     simp only[bf]
     cases hx with
     |head=>omega
     |tail _ hx=>have:=ih2 hx;omega
   obtain⟨op,rs,a,b,nn,tg,ll,le⟩:=x
   simp only[kB] at hn
   exact⟨ih ll (by omega),ih le (by omega)⟩
 exact fun l=>key _ l (Nat.le_refl _)
theorem mK {l:List Ins} {x:Ins} (hx:x∈l):kB x≤bf l:=by
 induction l with
 |nil=>cases hx
 |cons y r ih=>
  simp only[bf]
  cases hx with
  |head=>omega
  |tail _ hx=>have:=ih hx;omega
open Classical in
noncomputable def cZ {α:Type} (d:α) (F:List Ins→α) (cs:List PV):α:=if h : ∃l,cs=aa l then F h.choose else d
theorem eZ {α:Type} (d:α) (F:List Ins→α) (l:List Ins):cZ d F (aa l)=F l:=by
 have h : ∃l',aa l=aa l':=⟨l,rfl⟩
 unfold cZ
 rw[dif_pos h,←ia h.choose_spec]
end Go.Am
end
