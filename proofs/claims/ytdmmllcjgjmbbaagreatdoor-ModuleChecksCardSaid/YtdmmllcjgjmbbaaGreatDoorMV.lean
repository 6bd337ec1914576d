/-
The document's reading of a text: where it is none, name.Bad says so.
awake: its call, run, in pieces.
ModuleChecks: the law, by its tree.
-/
import Derived.Test.YtdmmllcjgjmbbaaGreatDoorMM
import Derived.Test.YtdmmllcjgjmbbaaGreatDoorMH
import Derived.Test.YtdmmllcjgjmbbaaGreatDoorMF
import Derived.Test.YtdmmllcjgjmbbaaGreatDoorMU
section
set_option linter.unusedSimpArgs false
set_option linter.unusedVariables false
namespace Go.Proofs.YtdmmllcjgjmbbaaGreatDoor.N
open Go Go.Am
noncomputable def VD:bu:=aK av az [] [(150,0,0),(150,4,3),(150,0,1),(150,6,3),(150,0,2),(150,8,3),(150,0,3)] []
def Y6:Sc:=(.fork .fin (.fork (.fork .fin (.yes (.fork .fin (.yes .fin)))) (.lit (.no (.lit (.no (.lit .fin)))))))
noncomputable def F7 (c:Int):Tree:=
 (.test (decide (c<128))
 (.out (.ret (.aS [sI .i64 (IntKind.i64.wrap c),sI .i64 0,sB true]) []))
 (.test (decide (c≥192))
 (.test (decide (c<224))
 (.out (.ret (.aS [sI .i64 (IntKind.i64.wrap (IntKind.i64.wrap c-192)),sI .i64 1,sB true]) []))
 (.must (decide (c≥224))
 (.test (decide (c<240))
 (.out (.ret (.aS [sI .i64 (IntKind.i64.wrap (IntKind.i64.wrap c-224)),sI .i64 2,sB true]) []))
 (.must (decide (c≥240))
 (.test (decide (c<248))
 (.out (.ret (.aS [sI .i64 (IntKind.i64.wrap (IntKind.i64.wrap c-240)),sI .i64 3,sB true]) []))
 (.out (.ret (.aS [sI .i64 0,sI .i64 0,sB false]) [])))))))
 (.must (!(decide (c≥224)))
 (.must (!(decide (c≥240)))
 (.out (.ret (.aS [sI .i64 0,sI .i64 0,sB false]) []))))))
theorem MU (c:Int):aR Tryz.prog env VD 1000000 150 ([sI IntKind.u8 c]) ([]) Y6=F7 c:=by kernel_rfl
noncomputable def VE:bu:=aK av az [] [(151,2,5),(151,2,12),(151,0,0)] [(151,2,7),(151,2,8),(151,2,14),(151,2,15),(151,4,2),(151,4,3)]
def Y7:Sc:=(.fork (.lit (.lit .fin)) (.fork (.lit .fin) .fin))
noncomputable def AX (n:Nat) (cs:List PV) (i:Int):Tree:=
 (.test (decide (i≥(↑n:Int)))
 (.out (.ret (.aS [sI .i64 0,sB false]) []))
 (.must (aG i n&&true&&true)
 (.must (isInt IntKind.u8 (cs.getD (i.toNat*1) PV.bad)&&true)
 (.test (decide (au (cs.getD (i.toNat*1) PV.bad)<128))
 (.out (.ret (.aS [sI .i64 0,sB false]) []))
 (.must (aG i n&&true&&true)
 (.must (isInt IntKind.u8 (cs.getD (i.toNat*1) PV.bad)&&true)
 (.test (decide (au (cs.getD (i.toNat*1) PV.bad)≥192))
 (.out (.ret (.aS [sI .i64 0,sB false]) []))
 (.must (aG i n&&true&&true)
 (.must (isInt IntKind.u8 (cs.getD (i.toNat*1) PV.bad)&&true)
 (.out (.ret (.aS [sI .i64 (IntKind.i64.wrap (IntKind.i64.wrap (au (cs.getD (i.toNat*1) PV.bad))-128)),sB true]) [])))))))))))
theorem MV (n:Nat) (cs:List PV) (i:Int):aR Tryz.prog env VE 1000000 151 ([AV.p (PV.ps n 1 cs),sI IntKind.i64 i]) ([]) Y7=AX n cs i:=by kernel_rfl
noncomputable def VF:bu:=aK av az [] [(152,2,3),(152,2,7),(152,2,10)] []
def Y8:Sc:=(.fork .fin (.lit .fin))
noncomputable def F8 (n:Int):Tree:=
 (.test (decide (n≥0))
 (.test (decide (n≤1114111))
 (.test (decide (n<55296))
 (.out (.ret (sB true) []))
 (.out (.ret (.p (.sc (.bool (decide (n>57343))))) [])))
 (.out (.ret (sB false) [])))
 (.out (.ret (sB false) [])))
theorem MW (n:Int):aR Tryz.prog env VF 1000000 152 ([sI IntKind.i64 n]) ([]) Y8=F8 n:=by kernel_rfl
noncomputable def VG:bu:=aK av az [] [(153,0,0),(153,0,1),(153,0,2)] []
def Y9:Sc:= .fin
noncomputable def Qh (n:Int):Tree:=
 (.test (decide (n<128))
 (.out (.ret (.os none 1 1 [.sc (.int .u8 (IntKind.u8.wrap n))]) []))
 (.test (decide (n<2048))
 (.out (.ret (.os none 2 1 [.sc (.int .u8 (IntKind.u8.wrap (IntKind.i64.wrap (192+IntKind.i64.wrap (n.tdiv 64))))),.sc (.int .u8 (IntKind.u8.wrap (IntKind.i64.wrap (128+n.tmod 64))))]) []))
 (.test (decide (n<65536))
 (.out (.ret (.os none 3 1 [.sc (.int .u8 (IntKind.u8.wrap (IntKind.i64.wrap (224+IntKind.i64.wrap (n.tdiv 4096))))),.sc (.int .u8 (IntKind.u8.wrap (IntKind.i64.wrap (128+(IntKind.i64.wrap (n.tdiv 64)).tmod 64)))),.sc (.int .u8 (IntKind.u8.wrap (IntKind.i64.wrap (128+n.tmod 64))))]) []))
 (.out (.ret (.os none 4 1 [.sc (.int .u8 (IntKind.u8.wrap (IntKind.i64.wrap (240+IntKind.i64.wrap (n.tdiv 262144))))),.sc (.int .u8 (IntKind.u8.wrap (IntKind.i64.wrap (128+(IntKind.i64.wrap (n.tdiv 4096)).tmod 64)))),.sc (.int .u8 (IntKind.u8.wrap (IntKind.i64.wrap (128+(IntKind.i64.wrap (n.tdiv 64)).tmod 64)))),.sc (.int .u8 (IntKind.u8.wrap (IntKind.i64.wrap (128+n.tmod 64))))]) [])))))
theorem MX (n:Int):aR Tryz.prog env VG 1000000 153 ([sI IntKind.i64 n]) ([]) Y9=Qh n:=by kernel_rfl
noncomputable def Qi:bu:=aK av az [] [(127,12,6)] [(127,2,2),(127,2,3)]
noncomputable def VH (n:Nat) (cs:List PV) (i:Nat) (n0 t1 t2 t3:Int) (b1:Bool) (b2:Bool) (b3:Bool) (rn:Bool) (k:Nat) (os:List PV):Sc:=(.ans 150 (.aS [sI .i64 n0,sI .i64 0,sB true]) ([]) (.ans 152 (.p (.sc (.bool rn))) ([]) (.fork (.ans 153 (.p (.ps k 1 os)) ([]) .fin) .fin)))
noncomputable def CJ (n:Nat) (cs:List PV) (i:Nat) (n0 t1 t2 t3:Int) (b1:Bool) (b2:Bool) (b3:Bool) (rn:Bool) (k:Nat) (os:List PV):Tree:=
 (.must (aG (↑i:Int) n&&true&&true)
 (.must (isInt IntKind.u8 (cs.getD ((↑i:Int).toNat*1) PV.bad)&&true)
 (.call ⟨150,[sI .u8 (au (cs.getD ((↑i:Int).toNat*1) PV.bad))],[],.aS [sI .i64 n0,sI .i64 0,sB true],[]⟩
 (.call ⟨152,[sI .i64 n0],[],.p (.sc (.bool rn)),[]⟩
 (.test (rn)
 (.call ⟨153,[sI .i64 n0],[],.p (.ps k 1 os),[]⟩
 (.out (.ret (.aS [sI .i64 n0,sI .i64 1,.p (.sc (.bool ((↑k:Int)==1)))]) [])))
 (.out (.ret (.aS [sI .i64 n0,sI .i64 1,sB false]) [])))))))
theorem HV (n:Nat) (cs:List PV) (i:Nat) (n0 t1 t2 t3:Int) (b1:Bool) (b2:Bool) (b3:Bool) (rn:Bool) (k:Nat) (os:List PV):aR Tryz.prog env Qi 1000000 127 ([AV.p (PV.ps n 1 cs),sI IntKind.i64 (↑i:Int)]) ([]) (VH n cs i n0 t1 t2 t3 b1 b2 b3 rn k os)=CJ n cs i n0 t1 t2 t3 b1 b2 b3 rn k os:=by kernel_rfl
noncomputable def Qj:bu:=aK av az [] [(127,0,3),(127,12,6)] [(127,2,2),(127,2,3)]
noncomputable def VI (n:Nat) (cs:List PV) (i:Nat) (n0 t1 t2 t3:Int) (b1:Bool) (b2:Bool) (b3:Bool) (rn:Bool) (k:Nat) (os:List PV):Sc:=(.ans 150 (.aS [sI .i64 n0,sI .i64 1,sB true]) ([]) (.ans 151 (.aS [sI .i64 t1,.p (.sc (.bool b1))]) ([]) (.fork .fin (.ans 152 (.p (.sc (.bool rn))) ([]) (.fork (.ans 153 (.p (.ps k 1 os)) ([]) .fin) .fin)))))
noncomputable def CK (n:Nat) (cs:List PV) (i:Nat) (n0 t1 t2 t3:Int) (b1:Bool) (b2:Bool) (b3:Bool) (rn:Bool) (k:Nat) (os:List PV):Tree:=
 (.must (aG (↑i:Int) n&&true&&true)
 (.must (isInt IntKind.u8 (cs.getD ((↑i:Int).toNat*1) PV.bad)&&true)
 (.call ⟨150,[sI .u8 (au (cs.getD ((↑i:Int).toNat*1) PV.bad))],[],.aS [sI .i64 n0,sI .i64 1,sB true],[]⟩
 (.call ⟨151,[.p (.ps n 1 cs),sI .i64 (IntKind.i64.wrap ((↑i:Int)+1))],[],.aS [sI .i64 t1,.p (.sc (.bool b1))],[]⟩
 (.test (!b1)
 (.out (.ret (.aS [sI .i64 0,sI .i64 0,sB false]) []))
 (.call ⟨152,[sI .i64 (IntKind.i64.wrap (IntKind.i64.wrap (64*n0)+t1))],[],.p (.sc (.bool rn)),[]⟩
 (.test (rn)
 (.call ⟨153,[sI .i64 (IntKind.i64.wrap (IntKind.i64.wrap (64*n0)+t1))],[],.p (.ps k 1 os),[]⟩
 (.out (.ret (.aS [sI .i64 (IntKind.i64.wrap (IntKind.i64.wrap (64*n0)+t1)),sI .i64 2,.p (.sc (.bool ((↑k:Int)==2)))]) [])))
 (.out (.ret (.aS [sI .i64 (IntKind.i64.wrap (IntKind.i64.wrap (64*n0)+t1)),sI .i64 2,sB false]) [])))))))))
theorem HW (n:Nat) (cs:List PV) (i:Nat) (n0 t1 t2 t3:Int) (b1:Bool) (b2:Bool) (b3:Bool) (rn:Bool) (k:Nat) (os:List PV):aR Tryz.prog env Qj 1000000 127 ([AV.p (PV.ps n 1 cs),sI IntKind.i64 (↑i:Int)]) ([]) (VI n cs i n0 t1 t2 t3 b1 b2 b3 rn k os)=CK n cs i n0 t1 t2 t3 b1 b2 b3 rn k os:=by kernel_rfl
noncomputable def Qk:bu:=aK av az [] [(127,0,3),(127,12,6)] [(127,2,2),(127,2,3)]
noncomputable def VJ (n:Nat) (cs:List PV) (i:Nat) (n0 t1 t2 t3:Int) (b1:Bool) (b2:Bool) (b3:Bool) (rn:Bool) (k:Nat) (os:List PV):Sc:=(.ans 150 (.aS [sI .i64 n0,sI .i64 2,sB true]) ([]) (.ans 151 (.aS [sI .i64 t1,.p (.sc (.bool b1))]) ([]) (.fork .fin (.ans 151 (.aS [sI .i64 t2,.p (.sc (.bool b2))]) ([]) (.fork .fin (.ans 152 (.p (.sc (.bool rn))) ([]) (.fork (.ans 153 (.p (.ps k 1 os)) ([]) .fin) .fin)))))))
noncomputable def CL (n:Nat) (cs:List PV) (i:Nat) (n0 t1 t2 t3:Int) (b1:Bool) (b2:Bool) (b3:Bool) (rn:Bool) (k:Nat) (os:List PV):Tree:=
 (.must (aG (↑i:Int) n&&true&&true)
 (.must (isInt IntKind.u8 (cs.getD ((↑i:Int).toNat*1) PV.bad)&&true)
 (.call ⟨150,[sI .u8 (au (cs.getD ((↑i:Int).toNat*1) PV.bad))],[],.aS [sI .i64 n0,sI .i64 2,sB true],[]⟩
 (.call ⟨151,[.p (.ps n 1 cs),sI .i64 (IntKind.i64.wrap ((↑i:Int)+1))],[],.aS [sI .i64 t1,.p (.sc (.bool b1))],[]⟩
 (.test (!b1)
 (.out (.ret (.aS [sI .i64 0,sI .i64 0,sB false]) []))
 (.call ⟨151,[.p (.ps n 1 cs),sI .i64 (IntKind.i64.wrap ((↑i:Int)+2))],[],.aS [sI .i64 t2,.p (.sc (.bool b2))],[]⟩
 (.test (!b2)
 (.out (.ret (.aS [sI .i64 0,sI .i64 0,sB false]) []))
 (.call ⟨152,[sI .i64 (IntKind.i64.wrap (IntKind.i64.wrap (64*IntKind.i64.wrap (IntKind.i64.wrap (64*n0)+t1))+t2))],[],.p (.sc (.bool rn)),[]⟩
 (.test (rn)
 (.call ⟨153,[sI .i64 (IntKind.i64.wrap (IntKind.i64.wrap (64*IntKind.i64.wrap (IntKind.i64.wrap (64*n0)+t1))+t2))],[],.p (.ps k 1 os),[]⟩
 (.out (.ret (.aS [sI .i64 (IntKind.i64.wrap (IntKind.i64.wrap (64*IntKind.i64.wrap (IntKind.i64.wrap (64*n0)+t1))+t2)),sI .i64 3,.p (.sc (.bool ((↑k:Int)==3)))]) [])))
 (.out (.ret (.aS [sI .i64 (IntKind.i64.wrap (IntKind.i64.wrap (64*IntKind.i64.wrap (IntKind.i64.wrap (64*n0)+t1))+t2)),sI .i64 3,sB false]) [])))))))))))
theorem HX (n:Nat) (cs:List PV) (i:Nat) (n0 t1 t2 t3:Int) (b1:Bool) (b2:Bool) (b3:Bool) (rn:Bool) (k:Nat) (os:List PV):aR Tryz.prog env Qk 1000000 127 ([AV.p (PV.ps n 1 cs),sI IntKind.i64 (↑i:Int)]) ([]) (VJ n cs i n0 t1 t2 t3 b1 b2 b3 rn k os)=CL n cs i n0 t1 t2 t3 b1 b2 b3 rn k os:=by kernel_rfl
noncomputable def Ql:bu:=aK av az [] [(127,0,3),(127,12,6)] [(127,2,2),(127,2,3)]
noncomputable def VK (n:Nat) (cs:List PV) (i:Nat) (n0 t1 t2 t3:Int) (b1:Bool) (b2:Bool) (b3:Bool) (rn:Bool) (k:Nat) (os:List PV):Sc:=(.ans 150 (.aS [sI .i64 n0,sI .i64 3,sB true]) ([]) (.ans 151 (.aS [sI .i64 t1,.p (.sc (.bool b1))]) ([]) (.fork .fin (.ans 151 (.aS [sI .i64 t2,.p (.sc (.bool b2))]) ([]) (.fork .fin (.ans 151 (.aS [sI .i64 t3,.p (.sc (.bool b3))]) ([]) (.fork .fin (.ans 152 (.p (.sc (.bool rn))) ([]) (.fork (.ans 153 (.p (.ps k 1 os)) ([]) .fin) .fin)))))))))
noncomputable def CM (n:Nat) (cs:List PV) (i:Nat) (n0 t1 t2 t3:Int) (b1:Bool) (b2:Bool) (b3:Bool) (rn:Bool) (k:Nat) (os:List PV):Tree:=
 (.must (aG (↑i:Int) n&&true&&true)
 (.must (isInt IntKind.u8 (cs.getD ((↑i:Int).toNat*1) PV.bad)&&true)
 (.call ⟨150,[sI .u8 (au (cs.getD ((↑i:Int).toNat*1) PV.bad))],[],.aS [sI .i64 n0,sI .i64 3,sB true],[]⟩
 (.call ⟨151,[.p (.ps n 1 cs),sI .i64 (IntKind.i64.wrap ((↑i:Int)+1))],[],.aS [sI .i64 t1,.p (.sc (.bool b1))],[]⟩
 (.test (!b1)
 (.out (.ret (.aS [sI .i64 0,sI .i64 0,sB false]) []))
 (.call ⟨151,[.p (.ps n 1 cs),sI .i64 (IntKind.i64.wrap ((↑i:Int)+2))],[],.aS [sI .i64 t2,.p (.sc (.bool b2))],[]⟩
 (.test (!b2)
 (.out (.ret (.aS [sI .i64 0,sI .i64 0,sB false]) []))
 (.call ⟨151,[.p (.ps n 1 cs),sI .i64 (IntKind.i64.wrap ((↑i:Int)+3))],[],.aS [sI .i64 t3,.p (.sc (.bool b3))],[]⟩
 (.test (!b3)
 (.out (.ret (.aS [sI .i64 0,sI .i64 0,sB false]) []))
 (.call ⟨152,[sI .i64 (IntKind.i64.wrap (IntKind.i64.wrap (64*IntKind.i64.wrap (IntKind.i64.wrap (64*IntKind.i64.wrap (IntKind.i64.wrap (64*n0)+t1))+t2))+t3))],[],.p (.sc (.bool rn)),[]⟩
 (.test (rn)
 (.call ⟨153,[sI .i64 (IntKind.i64.wrap (IntKind.i64.wrap (64*IntKind.i64.wrap (IntKind.i64.wrap (64*IntKind.i64.wrap (IntKind.i64.wrap (64*n0)+t1))+t2))+t3))],[],.p (.ps k 1 os),[]⟩
 (.out (.ret (.aS [sI .i64 (IntKind.i64.wrap (IntKind.i64.wrap (64*IntKind.i64.wrap (IntKind.i64.wrap (64*IntKind.i64.wrap (IntKind.i64.wrap (64*n0)+t1))+t2))+t3)),sI .i64 4,.p (.sc (.bool ((↑k:Int)==4)))]) [])))
 (.out (.ret (.aS [sI .i64 (IntKind.i64.wrap (IntKind.i64.wrap (64*IntKind.i64.wrap (IntKind.i64.wrap (64*IntKind.i64.wrap (IntKind.i64.wrap (64*n0)+t1))+t2))+t3)),sI .i64 4,sB false]) [])))))))))))))
theorem HY (n:Nat) (cs:List PV) (i:Nat) (n0 t1 t2 t3:Int) (b1:Bool) (b2:Bool) (b3:Bool) (rn:Bool) (k:Nat) (os:List PV):aR Tryz.prog env Ql 1000000 127 ([AV.p (PV.ps n 1 cs),sI IntKind.i64 (↑i:Int)]) ([]) (VK n cs i n0 t1 t2 t3 b1 b2 b3 rn k os)=CM n cs i n0 t1 t2 t3 b1 b2 b3 rn k os:=by kernel_rfl
noncomputable def Qm:bu:=aK av az [] [] [(127,2,2),(127,2,3)]
noncomputable def VL (n:Nat) (cs:List PV) (i:Nat) (n0 t1 t2 t3:Int) (b1:Bool) (b2:Bool) (b3:Bool) (rn:Bool) (k:Nat) (os:List PV):Sc:=(.ans 150 (.aS [sI .i64 n0,sI .i64 0,sB false]) ([]) .fin)
noncomputable def CN (n:Nat) (cs:List PV) (i:Nat) (n0 t1 t2 t3:Int) (b1:Bool) (b2:Bool) (b3:Bool) (rn:Bool) (k:Nat) (os:List PV):Tree:=
 (.must (aG (↑i:Int) n&&true&&true)
 (.must (isInt IntKind.u8 (cs.getD ((↑i:Int).toNat*1) PV.bad)&&true)
 (.call ⟨150,[sI .u8 (au (cs.getD ((↑i:Int).toNat*1) PV.bad))],[],.aS [sI .i64 n0,sI .i64 0,sB false],[]⟩
 (.out (.ret (.aS [sI .i64 0,sI .i64 0,sB false]) [])))))
theorem HZ (n:Nat) (cs:List PV) (i:Nat) (n0 t1 t2 t3:Int) (b1:Bool) (b2:Bool) (b3:Bool) (rn:Bool) (k:Nat) (os:List PV):aR Tryz.prog env Qm 1000000 127 ([AV.p (PV.ps n 1 cs),sI IntKind.i64 (↑i:Int)]) ([]) (VL n cs i n0 t1 t2 t3 b1 b2 b3 rn k os)=CN n cs i n0 t1 t2 t3 b1 b2 b3 rn k os:=by kernel_rfl
noncomputable def VM:bu:=aK av az [(114,0)] [] []
def Za:Sc:= .fin
noncomputable def Qn (n:Nat) (cs:List PV):Tree:=
 (.at (af Tryz.prog env 114 0 [.p (.ps n 1 cs),.mp 0 0,.os none 0 0 [],sI .i64 0] ([.pc [sP 0,sP 0]]) 0 33))
theorem MY (n:Nat) (cs:List PV):aR Tryz.prog env VM 1000000 114 ([AV.p (PV.ps n 1 cs)]) ([]) Za=Qn n cs:=by kernel_rfl
noncomputable def Qo:bu:=aK av az [(114,0)] [(114,0,1),(114,0,2)] []
noncomputable def VN (n:Nat) (cs:List PV) (i:Nat) (k:Nat) (a:List PV) (v z:Int) (ok:Bool):Sc:=(.fork (.ans 127 (.aS [sI .i64 v,sI .i64 z,.p (.sc (.bool ok))]) ([]) .fin) .fin)
noncomputable def me (n:Nat) (cs:List PV) (i:Nat) (k:Nat) (a:List PV) (v z:Int) (ok:Bool):Tree:=
 (.test (decide ((↑i:Int)<(↑n:Int)))
 (.call ⟨127,[.p (.ps n 1 cs),sI .i64 (↑i:Int)],[],.aS [sI .i64 v,sI .i64 z,.p (.sc (.bool ok))],[]⟩
 (.test (!ok)
 (.out (.ret (.aS [.os none 0 0 [],.agg [sI .i64 4,sI .i64 (↑i:Int)]]) []))
 (.at (af Tryz.prog env 114 0 [.p (.ps n 1 cs),.mp 0 0,.os (some 1) 1 1 [sP v],sI .i64 (IntKind.i64.wrap ((↑i:Int)+z))] ([.pc [sP 0,sP 0],.tok]) 0 33))))
 (.out (.ret (.aS [.os none 0 0 [],.agg [sI .i64 0,sI .i64 0]]) [])))
theorem mM (n:Nat) (cs:List PV) (i:Nat) (k:Nat) (a:List PV) (v z:Int) (ok:Bool):grow Tryz.prog env Qo 1000000 true (af Tryz.prog env 114 0 ([AV.p (PV.ps n 1 cs),AV.mp 0 0,AV.os Option.none 0 0 [],sI IntKind.i64 (↑i:Int)]) ([bg.pc [PV.sc (Value.int IntKind.i64 0),PV.sc (Value.int IntKind.i64 0)]]) 0 33) (VN n cs i k a v z ok) atEnd=me n cs i k a v z ok:=by kernel_rfl
noncomputable def Qp:bu:=aK av az [(114,0)] [(114,0,1),(114,0,2)] [(114,8,3)]
noncomputable def VO (n:Nat) (cs:List PV) (i:Nat) (k:Nat) (a:List PV) (v z:Int) (ok:Bool):Sc:=(.fork (.ans 127 (.aS [sI .i64 v,sI .i64 z,.p (.sc (.bool ok))]) ([]) .fin) .fin)
noncomputable def mh (n:Nat) (cs:List PV) (i:Nat) (k:Nat) (a:List PV) (v z:Int) (ok:Bool):Tree:=
 (.test (decide ((↑i:Int)<(↑n:Int)))
 (.call ⟨127,[.p (.ps n 1 cs),sI .i64 (↑i:Int)],[],.aS [sI .i64 v,sI .i64 z,.p (.sc (.bool ok))],[]⟩
 (.test (!ok)
 (.out (.ret (.aS [.os none 0 0 [],.agg [sI .i64 4,sI .i64 (↑i:Int)]]) []))
 (.must (((k+1)*8).ble dh&&(k+1).ble dh&&true)
 (.at (af Tryz.prog env 114 0 [.p (.ps n 1 cs),.mp 0 0,.os (some 1) (k+1) 1 (a++[sP v]),sI .i64 (IntKind.i64.wrap ((↑i:Int)+z))] ([.pc [sP 0,sP 0],.tok]) 0 33)))))
 (.out (.ret (.aS [.os (some 0) k 1 a,.agg [sI .i64 0,sI .i64 0]]) [.tok])))
theorem mN (n:Nat) (cs:List PV) (i:Nat) (k:Nat) (a:List PV) (v z:Int) (ok:Bool):grow Tryz.prog env Qp 1000000 true (af Tryz.prog env 114 0 ([AV.p (PV.ps n 1 cs),AV.mp 0 0,AV.os (Option.some 1) k 1 a,sI IntKind.i64 (↑i:Int)]) ([bg.pc [PV.sc (Value.int IntKind.i64 0),PV.sc (Value.int IntKind.i64 0)],bg.tok]) 0 33) (VO n cs i k a v z ok) atEnd=mh n cs i k a v z ok:=by kernel_rfl
noncomputable def VQ:bu:=aK av az [] [(77,0,0)] []
noncomputable def Zb (n:Nat) (cs:List PV) (k:Nat) (l:List PV) (e p:Int):Sc:=(.ans 114 (.aS [.an,.agg [sI .i64 e,sI .i64 p]]) ([]) .fin)
noncomputable def F9 (n:Nat) (cs:List PV) (k:Nat) (l:List PV) (e p:Int):Tree:=
 (.call ⟨114,[.p (.ps n 1 cs)],[],.aS [.an,.agg [sI .i64 e,sI .i64 p]],[]⟩
 (.test (e != 0)
 (.out (.ret (sI .i64 p) []))
 (.out (.ret (sI .i64 (-1)) []))))
theorem MZ (n:Nat) (cs:List PV) (k:Nat) (l:List PV) (e p:Int):aR Tryz.prog env VQ 1000000 77 ([AV.p (PV.ps n 1 cs)]) ([]) (Zb n cs k l e p)=F9 n cs k l e p:=by kernel_rfl
section
variable (s:ByteArray)
abbrev vL:List PV:=s.data.toList.map fc
theorem Ga {j:Nat} (h:j<s.data.toList.length):(vL s).getD (j*1) .bad = .sc (.int .u8 (bt s j:Nat)):=by
 rw[Nat.mul_one,List.getD_eq_getElem?_getD,List.getElem?_map,List.getElem?_eq_getElem h,bt,List.getD_eq_getElem?_getD,List.getElem?_eq_getElem h]
 rfl
def gO (c:Nat):Int×Int×Bool:=if c<128 then(c,0,true) else if 192≤c∧c<224 then(c-192,1,true) else if 224≤c∧c<240 then(c-224,2,true) else if 240≤c∧c<248 then(c-240,3,true) else(0,0,false)
theorem CO (c:Nat) (h:c<256):aC Tryz.prog env 150 [sI .u8 c] [] (.aS [sI .i64 (gO c).1,sI .i64 (gO c).2.1,sB (gO c).2.2]) []:=by
 have w0:IntKind.i64.wrap (c:Int)=c:=aD (by omega) (by omega)
 have w1:IntKind.i64.wrap ((c:Int)-192)=c-192:=aD (by omega) (by omega)
 have w2:IntKind.i64.wrap ((c:Int)-224)=c-224:=aD (by omega) (by omega)
 have w3:IntKind.i64.wrap ((c:Int)-240)=c-240:=aD (by omega) (by omega)
 refine ah names (MU c) ?_
 simp only[F7,Tree.ok,w0,w1,w2,w3,decide_eq_true_eq,decide_eq_false_iff_not,Bool.not_eq_true']
 refine⟨fun q=> ?_,fun q=>⟨fun r=>⟨fun t=> ?_,fun t=>⟨by omega,fun u=> ?_,fun u=>⟨by omega,fun v=> ?_,fun v=> ?_⟩⟩⟩,fun r=>⟨by omega,by omega,?_⟩⟩⟩<;>unfold gO
 · rw[if_pos (by omega)]
 · rw[if_neg (by omega),if_pos (by omega)]
 · rw[if_neg (by omega),if_neg (by omega),if_pos (by omega)]
 · rw[if_neg (by omega),if_neg (by omega),if_neg (by omega),if_pos (by omega)]
 · rw[if_neg (by omega),if_neg (by omega),if_neg (by omega),if_neg (by omega)]
 · rw[if_neg (by omega),if_neg (by omega),if_neg (by omega),if_neg (by omega)]
def goes (j:Nat):Bool:=decide (j<s.data.toList.length)&&(decide (128≤bt s j)&&decide (bt s j<192))
def part (j:Nat):Int:=if goes s j=true then(bt s j:Int)-128 else 0
theorem nL (j:Nat):aC Tryz.prog env 151 [.p (.ps s.data.toList.length 1 (vL s)),sI .i64 j] [] (.aS [sI .i64 (part s j),sB (goes s j)]) []:=by
 refine ah names (MV s.data.toList.length (vL s) j) ?_
 by_cases h:j<s.data.toList.length
 · have hb:=ju s j
   have hd:decide ((j:Int)≥(s.data.toList.length:Int))=false:=decide_eq_false (by omega)
   have hin:aG (j:Int) s.data.toList.length=true:=by simp only[aG,Bool.and_eq_true,decide_eq_true_eq];omega
   have w0:IntKind.i64.wrap (bt s j:Int)=bt s j:=aD (by omega) (by omega)
   have w1:IntKind.i64.wrap ((bt s j:Int)-128)=bt s j-128:=aD (by omega) (by omega)
   have hc:=Ga s h
   simp only[AX,Tree.ok,Int.toNat_natCast,hc,hd,hin,isInt,au,w0,w1,Bool.and_true,decide_eq_true_eq,decide_eq_false_iff_not]
   refine⟨fun q=>(by cases q),fun _=>⟨trivial,rfl,fun q=> ?_,fun q=>⟨trivial,rfl,fun r=> ?_,fun r=>⟨trivial,rfl,?_⟩⟩⟩⟩
   · have e:goes s j=false:=by simp only[goes,Bool.and_eq_false_iff,decide_eq_false_iff_not];omega
     rw[part,e];rfl
   · have e:goes s j=false:=by simp only[goes,Bool.and_eq_false_iff,decide_eq_false_iff_not];omega
     rw[part,e];rfl
   · have e:goes s j=true:=by simp only[goes,Bool.and_eq_true,decide_eq_true_eq];omega
     rw[part,e];rfl
 · have hd:decide ((j:Int)≥(s.data.toList.length:Int))=true:=decide_eq_true (by omega)
   have e:goes s j=false:=by simp only[goes,Bool.and_eq_false_iff,decide_eq_false_iff_not];omega
   simp only[AX,Tree.ok,hd,part,e]
   exact⟨fun _=>rfl,fun q=>(by cases q)⟩
def gR (n:Int):Bool:=decide (0≤n)&&(decide (n≤1114111)&&(decide (n<55296)||decide (n>57343)))
theorem kC (n:Int):aC Tryz.prog env 152 [sI .i64 n] [] (sB (gR n)) []:=by
 refine ah names (MW n) ?_
 simp only[F8,Tree.ok,gR,ge_iff_le]
 refine⟨fun q=>⟨fun r=>⟨fun t=> ?_,fun t=> ?_⟩,fun r=> ?_⟩,fun q=> ?_⟩
 · rw[q,r,t];rfl
 · rw[q,r,t];rfl
 · rw[q,r];rfl
 · rw[q];rfl
def mj (n:Int):Nat:=if n<128 then 1 else if n<2048 then 2 else if n<65536 then 3 else 4
theorem Qq {f:FuncId} {args:List AV} {k z:Nat} {l:List PV} (h:aC Tryz.prog env f args [] (.os none k z l) []):aC Tryz.prog env f args [] (.p (.ps k z l)) []:=aC.pure h
theorem mO (n:Int) : ∃l,aC Tryz.prog env 153 [sI .i64 n] [] (.p (.ps (mj n) 1 l)) []:=by
 have t:=MX n
 unfold mj
 by_cases h1:n<128
 · rw[if_pos h1]
   exact⟨_,Qq (ah names t ⟨fun _=>rfl,fun q=>absurd h1 (by simpa using q)⟩)⟩
 · rw[if_neg h1]
   by_cases h2:n<2048
   · rw[if_pos h2]
     exact⟨_,Qq (ah names t ⟨fun q=>absurd (by simpa using q) h1,fun _=>⟨fun _=>rfl,fun q=>absurd h2 (by simpa using q)⟩⟩)⟩
   · rw[if_neg h2]
     by_cases h3:n<65536
     · rw[if_pos h3]
       exact⟨_,Qq (ah names t ⟨fun q=>absurd (by simpa using q) h1,fun _=>⟨fun q=>absurd (by simpa using q) h2,fun _=>⟨fun _=>rfl,fun q=>absurd h3 (by simpa using q)⟩⟩⟩)⟩
     · rw[if_neg h3]
       exact⟨_,Qq (ah names t ⟨fun q=>absurd (by simpa using q) h1,fun _=>⟨fun q=>absurd (by simpa using q) h2,fun _=>⟨fun q=>absurd (by simpa using q) h3,fun _=>rfl⟩⟩⟩)⟩
def Ep (j:Nat):Int×Int×Bool:=
 let f:=gO (bt s j)
 if f.2.2=false then(0,0,false)
 else if f.2.1=0 then(f.1,1,gR f.1&&((mj f.1:Int)==1))
 else if goes s (j+1)=false then(0,0,false)
 else if f.2.1=1 then(64*f.1+part s (j+1),2,gR (64*f.1+part s (j+1))&&((mj (64*f.1+part s (j+1)):Int)==2))
 else if goes s (j+2)=false then(0,0,false)
 else if f.2.1=2 then(64*(64*f.1+part s (j+1))+part s (j+2),3,gR (64*(64*f.1+part s (j+1))+part s (j+2))&&((mj (64*(64*f.1+part s (j+1))+part s (j+2)):Int)==3))
 else if goes s (j+3)=false then(0,0,false)
 else(64*(64*(64*f.1+part s (j+1))+part s (j+2))+part s (j+3),4,gR (64*(64*(64*f.1+part s (j+1))+part s (j+2))+part s (j+3))&&((mj (64*(64*(64*f.1+part s (j+1))+part s (j+2))+part s (j+3)):Int)==4))
theorem nM (j:Nat):0≤part s j∧part s j≤63:=by
 unfold part
 split
 · rename_i h
   simp only[goes,Bool.and_eq_true,decide_eq_true_eq] at h
   omega
 · omega
theorem Qr {j:Nat} (hj:j<s.data.toList.length) (hs:s.data.toList.length≤1000000):aC Tryz.prog env 127 [.p (.ps s.data.toList.length 1 (vL s)),sI .i64 j] [] (.aS [sI .i64 (Ep s j).1,sI .i64 (Ep s j).2.1,sB (Ep s j).2.2]) []:=by
 have hb:=ju s j
 have hin:aG (j:Int) s.data.toList.length=true:=by simp only[aG,Bool.and_eq_true,decide_eq_true_eq];omega
 have hc:=Ga s hj
 have hf:=CO (bt s j) hb
 have e1:IntKind.i64.wrap ((j:Int)+1)=((j+1:Nat):Int):=by rw[aD (by omega) (by omega)];rfl
 have e2:IntKind.i64.wrap ((j:Int)+2)=((j+2:Nat):Int):=by rw[aD (by omega) (by omega)];rfl
 have e3:IntKind.i64.wrap ((j:Int)+3)=((j+3:Nat):Int):=by rw[aD (by omega) (by omega)];rfl
 have t1:=nL s (j+1)
 have t2:=nL s (j+2)
 have t3:=nL s (j+3)
 have p1:=nM s (j+1)
 have p2:=nM s (j+2)
 have p3:=nM s (j+3)
 have hfr:((gO (bt s j)).2.2=false∧gO (bt s j)=(0,0,false))∨(0≤(gO (bt s j)).1∧(gO (bt s j)).1≤255∧(gO (bt s j)).2.2=true∧((gO (bt s j)).2.1=0∨(gO (bt s j)).2.1=1∨(gO (bt s j)).2.1=2∨(gO (bt s j)).2.1=3)):=by
  unfold gO
  split
  · exact .inr ⟨by simp,by simp;omega,rfl,.inl rfl⟩
  split
  · exact .inr ⟨by simp;omega,by simp;omega,rfl,.inr (.inl rfl)⟩
  split
  · exact .inr ⟨by simp;omega,by simp;omega,rfl,.inr (.inr (.inl rfl))⟩
  split
  · exact .inr ⟨by simp;omega,by simp;omega,rfl,.inr (.inr (.inr rfl))⟩
  · exact .inl ⟨rfl,rfl⟩
 unfold Ep
 generalize hF:gO (bt s j)=F at hf hfr
 obtain⟨n0,m,ok⟩:=F
 generalize part s (j+1)=x1 at *
 generalize part s (j+2)=x2 at *
 generalize part s (j+3)=x3 at *
 generalize goes s (j+1)=g1 at *
 generalize goes s (j+2)=g2 at *
 generalize goes s (j+3)=g3 at *
 dsimp only at hf hfr ⊢
 rcases hfr with⟨rfl,he⟩ | ⟨h0,ac4,rfl,rfl | rfl | rfl | rfl⟩
 · cases he
   refine ah names (HZ s.data.toList.length (vL s) j 0 0 0 0 true true true true 0 []) ?_
   simp only[CN,Tree.ok,Int.toNat_natCast,hc,hin,isInt,au,Bool.and_true]
   exact⟨trivial,rfl,hf,rfl⟩
 · obtain⟨l,ho⟩:=mO n0
   refine ah names (HV s.data.toList.length (vL s) j n0 0 0 0 true true true (gR n0) (mj n0) l) ?_
   simp only[CJ,Tree.ok,Int.toNat_natCast,hc,hin,isInt,au,Bool.and_true]
   refine⟨trivial,rfl,hf,kC n0,fun q=>⟨ho,?_⟩,fun q=> ?_⟩
   · rw[q];rfl
   · rw[q];rfl
 · have w1:IntKind.i64.wrap (IntKind.i64.wrap (64*n0)+x1)=64*n0+x1:=by rw[aD (n:=64*n0) (by omega) (by omega)];exact aD (by omega) (by omega)
   obtain⟨l,ho⟩:=mO (64*n0+x1)
   refine ah names (HW s.data.toList.length (vL s) j n0 x1 0 0 g1 true true (gR (64*n0+x1)) (mj (64*n0+x1)) l) ?_
   simp only[CK,Tree.ok,Int.toNat_natCast,hc,hin,isInt,au,Bool.and_true,w1,e1]
   refine⟨trivial,rfl,hf,t1,fun q=> ?_,fun q=>⟨kC _,fun r=>⟨ho,?_⟩,fun r=> ?_⟩⟩
   · rw[Bool.not_eq_true'] at q;rw[q];rfl
   · rw[Bool.not_eq_false'] at q;rw[q,r];rfl
   · rw[Bool.not_eq_false'] at q;rw[q,r];rfl
 · have w1:IntKind.i64.wrap (IntKind.i64.wrap (64*n0)+x1)=64*n0+x1:=by rw[aD (n:=64*n0) (by omega) (by omega)];exact aD (by omega) (by omega)
   have w2:IntKind.i64.wrap (IntKind.i64.wrap (64*(64*n0+x1))+x2)=64*(64*n0+x1)+x2:=by rw[aD (n:=64*(64*n0+x1)) (by omega) (by omega)];exact aD (by omega) (by omega)
   obtain⟨l,ho⟩:=mO (64*(64*n0+x1)+x2)
   refine ah names (HX s.data.toList.length (vL s) j n0 x1 x2 0 g1 g2 true (gR (64*(64*n0+x1)+x2)) (mj (64*(64*n0+x1)+x2)) l) ?_
   simp only[CL,Tree.ok,Int.toNat_natCast,hc,hin,isInt,au,Bool.and_true,w1,w2,e1,e2]
   refine⟨trivial,rfl,hf,t1,fun q=> ?_,fun q=>⟨t2,fun q2=> ?_,fun q2=>⟨kC _,fun r=>⟨ho,?_⟩,fun r=> ?_⟩⟩⟩
   · rw[Bool.not_eq_true'] at q;rw[q];rfl
   · rw[Bool.not_eq_false'] at q;rw[Bool.not_eq_true'] at q2;rw[q,q2];rfl
   · rw[Bool.not_eq_false'] at q q2;rw[q,q2,r];rfl
   · rw[Bool.not_eq_false'] at q q2;rw[q,q2,r];rfl
 · have w1:IntKind.i64.wrap (IntKind.i64.wrap (64*n0)+x1)=64*n0+x1:=by rw[aD (n:=64*n0) (by omega) (by omega)];exact aD (by omega) (by omega)
   have w2:IntKind.i64.wrap (IntKind.i64.wrap (64*(64*n0+x1))+x2)=64*(64*n0+x1)+x2:=by rw[aD (n:=64*(64*n0+x1)) (by omega) (by omega)];exact aD (by omega) (by omega)
   have w3:IntKind.i64.wrap (IntKind.i64.wrap (64*(64*(64*n0+x1)+x2))+x3)=64*(64*(64*n0+x1)+x2)+x3:=by rw[aD (n:=64*(64*(64*n0+x1)+x2)) (by omega) (by omega)];exact aD (by omega) (by omega)
   obtain⟨l,ho⟩:=mO (64*(64*(64*n0+x1)+x2)+x3)
   refine ah names (HY s.data.toList.length (vL s) j n0 x1 x2 x3 g1 g2 g3 (gR (64*(64*(64*n0+x1)+x2)+x3)) (mj (64*(64*(64*n0+x1)+x2)+x3)) l) ?_
   simp only[CM,Tree.ok,Int.toNat_natCast,hc,hin,isInt,au,Bool.and_true,w1,w2,w3,e1,e2,e3]
   refine⟨trivial,rfl,hf,t1,fun q=> ?_,fun q=>⟨t2,fun q2=> ?_,fun q2=>⟨t3,fun q3=> ?_,fun q3=>⟨kC _,fun r=>⟨ho,?_⟩,fun r=> ?_⟩⟩⟩⟩
   · rw[Bool.not_eq_true'] at q;rw[q];rfl
   · rw[Bool.not_eq_false'] at q;rw[Bool.not_eq_true'] at q2;rw[q,q2];rfl
   · rw[Bool.not_eq_false'] at q q2;rw[Bool.not_eq_true'] at q3;rw[q,q2,q3];rfl
   · rw[Bool.not_eq_false'] at q q2 q3;rw[q,q2,q3,r];rfl
   · rw[Bool.not_eq_false'] at q q2 q3;rw[q,q2,q3,r];rfl
theorem rl1 (v:Int) (h:0≤v∧v<128):(gR v&&((mj v:Int)==1))=true:=by
 have e:mj v=1:=if_pos h.2
 rw[e]
 simp only[gR,Bool.and_eq_true,Bool.or_eq_true,decide_eq_true_eq,beq_iff_eq]
 omega
theorem M0 (v:Int) (h:0≤v):(gR v&&((mj v:Int)==2))=decide (128≤v∧v<2048)∧(gR v&&((mj v:Int)==3))=decide (2048≤v∧v<65536∧(v<55296∨v>57343))∧(gR v&&((mj v:Int)==4))=decide (65536≤v∧v≤1114111):=by
 have e:(mj v:Int)=if v<128 then 1 else if v<2048 then 2 else if v<65536 then 3 else 4:=by
  unfold mj
  split
  · rfl
  split
  · rfl
  split<;>rfl
 rw[e]
 refine⟨?_,?_,?_⟩<;>rw[Bool.eq_iff_iff]<;>simp only[gR,Bool.and_eq_true,Bool.or_eq_true,decide_eq_true_eq,beq_iff_eq]<;>repeat' split
 all_goals omega
theorem Qs {j:Nat} (hj:j<s.data.toList.length):((Ep s j).2.2=true∧(Ep s j).2.1=(Utf8.decode s j).2 ∧ ¬((Utf8.decode s j).1=65533∧(Utf8.decode s j).2=1))∨((Ep s j).2.2=false∧(Utf8.decode s j).1=65533∧(Utf8.decode s j).2=1):=by
 have g : ∀k,(s.get! k).toNat=bt s k:=fun k=>by rw[Ce]
 have hsz:s.size=s.data.toList.length:=Array.length_toList.symm
 have b0:=ju s j
 have b1:=ju s (j+1)
 have b2:=ju s (j+2)
 have b3:=ju s (j+3)
 rw[Lib.decode_at,g,g,g,g,hsz]
 have e1:goes s (j+1)=decide (1<s.data.toList.length-j∧bt s (j+1) / 64=2):=by rw[goes,Bool.eq_iff_iff];simp only[Bool.and_eq_true,decide_eq_true_eq];omega
 have e2:goes s (j+2)=decide (2<s.data.toList.length-j∧bt s (j+2) / 64=2):=by rw[goes,Bool.eq_iff_iff];simp only[Bool.and_eq_true,decide_eq_true_eq];omega
 have e3:goes s (j+3)=decide (3<s.data.toList.length-j∧bt s (j+3) / 64=2):=by rw[goes,Bool.eq_iff_iff];simp only[Bool.and_eq_true,decide_eq_true_eq];omega
 unfold Ep part
 rw[e1,e2,e3]
 have hn:1≤s.data.toList.length-j:=by omega
 generalize s.data.toList.length-j=n at *
 generalize bt s j=c0 at *
 generalize bt s (j+1)=c1 at *
 generalize bt s (j+2)=c2 at *
 generalize bt s (j+3)=c3 at *
 clear e1 e2 e3 g hsz hj
 by_cases k0:c0<128
 · have f:gO c0=((c0:Int),0,true):=if_pos k0
   have dd:Lib.decodeN n c0 c1 c2 c3=(c0,1):=by unfold Lib.decodeN;rw[if_pos k0]
   rw[f,dd]
   refine .inl ⟨?_,rfl,by simp only;omega⟩
   exact rl1 _ (by omega)
 by_cases k1:192≤c0∧c0<224
 · have f:gO c0=((c0:Int)-192,1,true):=by unfold gO;rw[if_neg k0,if_pos k1]
   rw[f]
   by_cases g1:1<n∧c1 / 64=2
   · have dd:Lib.decodeN n c0 c1 c2 c3=if c0%32*64+c1%64≥128 then(c0%32*64+c1%64,2) else(65533,1):=by unfold Lib.decodeN;rw[if_neg k0,if_pos ⟨by omega,g1⟩]
     rw[dd]
     have r:=(M0 (64*((c0:Int)-192)+((c1:Int)-128)) (by omega)).1
     simp only[decide_eq_true g1,if_true,Bool.true_eq_false,if_false,Int.one_ne_zero,r,decide_eq_true_eq,decide_eq_false_iff_not]
     split
     · exact .inl ⟨by omega,(by first | rfl | trivial),by simp⟩
     · exact .inr ⟨by omega,(by first | rfl | trivial),(by first | rfl | trivial)⟩
   · have dd:Lib.decodeN n c0 c1 c2 c3=(65533,1):=by unfold Lib.decodeN;rw[if_neg k0,if_neg (fun h=>g1 h.2),if_neg (by omega),if_neg (by omega)]
     rw[dd]
     simp only[decide_eq_false g1,if_true,Bool.true_eq_false,if_false,Int.one_ne_zero]
     exact .inr ⟨(by first | rfl | trivial),(by first | rfl | trivial),(by first | rfl | trivial)⟩
 by_cases k2:224≤c0∧c0<240
 · have f:gO c0=((c0:Int)-224,2,true):=by unfold gO;rw[if_neg k0,if_neg k1,if_pos k2]
   rw[f]
   by_cases g1:1<n∧c1 / 64=2
   · by_cases g2:2<n∧c2 / 64=2
     · have dd:Lib.decodeN n c0 c1 c2 c3=if c0%16*4096+c1%64*64+c2%64≥2048∧(c0%16*4096+c1%64*64+c2%64<55296∨(57344≤c0%16*4096+c1%64*64+c2%64∧c0%16*4096+c1%64*64+c2%64≤1114111)) then(c0%16*4096+c1%64*64+c2%64,3) else(65533,1):=by unfold Lib.decodeN;rw[if_neg k0,if_neg (by omega),if_pos ⟨by omega,g1,g2⟩]
       rw[dd]
       have r:=(M0 (64*(64*((c0:Int)-224)+((c1:Int)-128))+((c2:Int)-128)) (by omega)).2.1
       simp only[decide_eq_true g1,decide_eq_true g2,if_true,Bool.true_eq_false,if_false,show(2:Int)≠0 by decide,show(2:Int)≠1 by decide,r,decide_eq_true_eq,decide_eq_false_iff_not]
       split
       · exact .inl ⟨by omega,(by first | rfl | trivial),by simp⟩
       · exact .inr ⟨by omega,(by first | rfl | trivial),(by first | rfl | trivial)⟩
     · have dd:Lib.decodeN n c0 c1 c2 c3=(65533,1):=by unfold Lib.decodeN;rw[if_neg k0,if_neg (by omega),if_neg (fun h=>g2 h.2.2),if_neg (by omega)]
       rw[dd]
       simp only[decide_eq_true g1,decide_eq_false g2,if_true,Bool.true_eq_false,if_false,show(2:Int)≠0 by decide,show(2:Int)≠1 by decide]
       exact .inr ⟨(by first | rfl | trivial),(by first | rfl | trivial),(by first | rfl | trivial)⟩
   · have dd:Lib.decodeN n c0 c1 c2 c3=(65533,1):=by unfold Lib.decodeN;rw[if_neg k0,if_neg (by omega),if_neg (fun h=>g1 h.2.1),if_neg (by omega)]
     rw[dd]
     simp only[decide_eq_false g1,if_true,Bool.true_eq_false,if_false,show(2:Int)≠0 by decide]
     exact .inr ⟨(by first | rfl | trivial),(by first | rfl | trivial),(by first | rfl | trivial)⟩
 by_cases k3:240≤c0∧c0<248
 · have f:gO c0=((c0:Int)-240,3,true):=by unfold gO;rw[if_neg k0,if_neg k1,if_neg k2,if_pos k3]
   rw[f]
   by_cases g1:1<n∧c1 / 64=2
   · by_cases g2:2<n∧c2 / 64=2
     · by_cases g3:3<n∧c3 / 64=2
       · have dd:Lib.decodeN n c0 c1 c2 c3=if c0%8*262144+c1%64*4096+c2%64*64+c3%64≥65536∧(c0%8*262144+c1%64*4096+c2%64*64+c3%64<55296∨(57344≤c0%8*262144+c1%64*4096+c2%64*64+c3%64∧c0%8*262144+c1%64*4096+c2%64*64+c3%64≤1114111)) then(c0%8*262144+c1%64*4096+c2%64*64+c3%64,4) else(65533,1):=by unfold Lib.decodeN;rw[if_neg k0,if_neg (by omega),if_neg (by omega),if_pos ⟨by omega,g1,g2,g3⟩]
         rw[dd]
         have r:=(M0 (64*(64*(64*((c0:Int)-240)+((c1:Int)-128))+((c2:Int)-128))+((c3:Int)-128)) (by omega)).2.2
         simp only[decide_eq_true g1,decide_eq_true g2,decide_eq_true g3,if_true,Bool.true_eq_false,if_false,show(3:Int)≠0 by decide,show(3:Int)≠1 by decide,show(3:Int)≠2 by decide,r,decide_eq_true_eq,decide_eq_false_iff_not]
         split
         · exact .inl ⟨by omega,(by first | rfl | trivial),by simp⟩
         · exact .inr ⟨by omega,(by first | rfl | trivial),(by first | rfl | trivial)⟩
       · have dd:Lib.decodeN n c0 c1 c2 c3=(65533,1):=by unfold Lib.decodeN;rw[if_neg k0,if_neg (by omega),if_neg (by omega),if_neg (fun h=>g3 h.2.2.2)]
         rw[dd]
         simp only[decide_eq_true g1,decide_eq_true g2,decide_eq_false g3,if_true,Bool.true_eq_false,if_false,show(3:Int)≠0 by decide,show(3:Int)≠1 by decide,show(3:Int)≠2 by decide]
         exact .inr ⟨(by first | rfl | trivial),(by first | rfl | trivial),(by first | rfl | trivial)⟩
     · have dd:Lib.decodeN n c0 c1 c2 c3=(65533,1):=by unfold Lib.decodeN;rw[if_neg k0,if_neg (by omega),if_neg (by omega),if_neg (fun h=>g2 h.2.2.1)]
       rw[dd]
       simp only[decide_eq_true g1,decide_eq_false g2,if_true,Bool.true_eq_false,if_false,show(3:Int)≠0 by decide,show(3:Int)≠1 by decide]
       exact .inr ⟨(by first | rfl | trivial),(by first | rfl | trivial),(by first | rfl | trivial)⟩
   · have dd:Lib.decodeN n c0 c1 c2 c3=(65533,1):=by unfold Lib.decodeN;rw[if_neg k0,if_neg (by omega),if_neg (by omega),if_neg (fun h=>g1 h.2.1)]
     rw[dd]
     simp only[decide_eq_false g1,if_true,Bool.true_eq_false,if_false,show(3:Int)≠0 by decide]
     exact .inr ⟨(by first | rfl | trivial),(by first | rfl | trivial),(by first | rfl | trivial)⟩
 · have f:gO c0=(0,0,false):=by unfold gO;rw[if_neg k0,if_neg k1,if_neg k2,if_neg k3]
   have dd:Lib.decodeN n c0 c1 c2 c3=(65533,1):=by unfold Lib.decodeN;rw[if_neg k0,if_neg (by omega),if_neg (by omega),if_neg (by omega)]
   rw[f,dd]
   simp only[if_true]
   exact .inr ⟨trivial,trivial,trivial⟩
noncomputable def H6 (a:List PV) (i:Nat):bJ:=
 if a=[] then af Tryz.prog env 114 0 [.p (.ps s.data.toList.length 1 (vL s)),.mp 0 0,.os none 0 0 [],sI .i64 i] [.pc [sP 0,sP 0]] 0 33
 else af Tryz.prog env 114 0 [.p (.ps s.data.toList.length 1 (vL s)),.mp 0 0,.os (some 1) a.length 1 a,sI .i64 i] [.pc [sP 0,sP 0],.tok] 0 33
abbrev Qt (b:Int):AV:= .agg [sI .i64 (if b≥0 then 4 else 0),sI .i64 (if b≥0 then b else 0)]
theorem H7 (hs:s.data.toList.length≤1000000) : ∀(k i:Nat) (a:List PV),s.size+1≤i+k→a.length≤i → ∃v m',Am.Good Tryz.prog env (H6 s a i) (.ret (.aS [v,Qt (uE s k i)]) m'):=by
 have hsz:s.size=s.data.toList.length:=Array.length_toList.symm
 have hL:=An
 intro k
 induction k with
 |zero=>
  intro i a hi ha
  have hd:decide ((i:Int)<(s.data.toList.length:Int))=false:=decide_eq_false (by omega)
  unfold H6
  by_cases e:a=[]
  · rw[if_pos e]
    refine⟨_,_,aa names (mM s.data.toList.length (vL s) i 0 [] 0 0 true) (o:= .ret (.aS [.os none 0 0 [],.agg [sI .i64 0,sI .i64 0]]) []) ?_⟩
    simp only[me,Tree.ok,hd]
    exact⟨fun q=>(by cases q),fun _=>trivial⟩
  · rw[if_neg e]
    refine⟨_,_,aa names (mN s.data.toList.length (vL s) i a.length a 0 0 true) (o:= .ret (.aS [.os (some 0) a.length 1 a,.agg [sI .i64 0,sI .i64 0]]) [.tok]) ?_⟩
    simp only[mh,Tree.ok,hd]
    exact⟨fun q=>(by cases q),fun _=>trivial⟩
 |succ k ih=>
  intro i a hi ha
  by_cases hlt:i<s.size
  · have hj:i<s.data.toList.length:=by omega
    have hd:decide ((i:Int)<(s.data.toList.length:Int))=true:=decide_eq_true (by omega)
    have V8:=Qr s hj hs
    have hp:=FH s i
    simp only[uE,if_pos hlt]
    rcases Qs s hj with⟨q1,q2,q3⟩ | ⟨q1,q2,q3⟩
    · rw[if_neg q3]
      rw[q1,q2] at V8
      have hz4:(Utf8.decode s i).2≤4:=by
       rw[Lib.decode_at];unfold Lib.decodeN
       repeat' split
       all_goals simp
      have w:IntKind.i64.wrap ((i:Int)+((Utf8.decode s i).2:Nat))=((i+(Utf8.decode s i).2:Nat):Int):=by rw[aD (by omega) (by omega)];omega
      obtain⟨v,m',hn⟩:=ih (i+(Utf8.decode s i).2) (a++[sP (Ep s i).1]) (by omega) (by rw[List.length_append];simp;omega)
      refine⟨v,m',?_⟩
      unfold H6 at hn ⊢
      rw[if_neg (by simp)] at hn
      by_cases e:a=[]
      · subst e
        rw[if_pos rfl]
        refine aa names (mM s.data.toList.length (vL s) i 0 [] (Ep s i).1 ((Utf8.decode s i).2:Nat) true) ?_
        simp only[me,Tree.ok,hd,w]
        exact⟨fun _=>⟨V8,fun q=>(by cases q),fun _=>hn⟩,fun q=>(by cases q)⟩
      · rw[if_neg e]
        rw[List.length_append] at hn
        refine aa names (mN s.data.toList.length (vL s) i a.length a (Ep s i).1 ((Utf8.decode s i).2:Nat) true) ?_
        simp only[mh,Tree.ok,hd,w]
        exact⟨fun _=>⟨V8,fun q=>(by cases q),fun _=>⟨by simp only[Bool.and_true,Bool.and_eq_true,Nat.ble_eq];omega,hn⟩⟩,fun q=>(by cases q)⟩
    · rw[if_pos ⟨q2,q3⟩]
      rw[q1] at V8
      have f0:Qt (i:Int) = .agg [sI .i64 4,sI .i64 i]:=by
       have h0:(i:Int)≥0:=by omega
       simp only[Qt,if_pos h0]
      rw[f0]
      unfold H6
      by_cases e:a=[]
      · subst e
        rw[if_pos rfl]
        refine⟨_,_,aa names (mM s.data.toList.length (vL s) i 0 [] (Ep s i).1 (Ep s i).2.1 false) (o:= .ret (.aS [.os none 0 0 [],.agg [sI .i64 4,sI .i64 i]]) []) ?_⟩
        simp only[me,Tree.ok,hd]
        exact⟨fun _=>⟨V8,fun _=>trivial,fun q=>(by cases q)⟩,fun q=>(by cases q)⟩
      · rw[if_neg e]
        refine⟨_,_,aa names (mN s.data.toList.length (vL s) i a.length a (Ep s i).1 (Ep s i).2.1 false) (o:= .ret (.aS [.os none 0 0 [],.agg [sI .i64 4,sI .i64 i]]) []) ?_⟩
        simp only[mh,Tree.ok,hd]
        exact⟨fun _=>⟨V8,fun _=>trivial,fun q=>(by cases q)⟩,fun q=>(by cases q)⟩
  · have hd:decide ((i:Int)<(s.data.toList.length:Int))=false:=decide_eq_false (by omega)
    simp only[uE,if_neg hlt]
    unfold H6
    by_cases e:a=[]
    · rw[if_pos e]
      refine⟨_,_,aa names (mM s.data.toList.length (vL s) i 0 [] 0 0 true) (o:= .ret (.aS [.os none 0 0 [],.agg [sI .i64 0,sI .i64 0]]) []) ?_⟩
      simp only[me,Tree.ok,hd]
      exact⟨fun q=>(by cases q),fun _=>trivial⟩
    · rw[if_neg e]
      refine⟨_,_,aa names (mN s.data.toList.length (vL s) i a.length a 0 0 true) (o:= .ret (.aS [.os (some 0) a.length 1 a,.agg [sI .i64 0,sI .i64 0]]) [.tok]) ?_⟩
      simp only[mh,Tree.ok,hd]
      exact⟨fun q=>(by cases q),fun _=>trivial⟩
theorem M1 {f:FuncId} {args:List AV} {v:AV} {m':Mem} {a b:Int} (h:aC Tryz.prog env f args [] (.aS [v,.agg [sI .i64 a,sI .i64 b]]) m'):aC Tryz.prog env f args [] (.aS [.an,.agg [sI .i64 a,sI .i64 b]]) []:=
 h.weak fun g wd cv q=>by
   cases q with
   |aS _ cs hl hc=>
    have hv:cj g wd [v,.agg [sI .i64 a,sI .i64 b]] cs.toList:=bq.ct hl hc
    refine VA.iA.2 ?_
    generalize cs.toList=vs at hv
    match vs,hv with
    |[u,t],hv=>
     obtain⟨_,h2,_⟩:=hv
     refine⟨.an _,?_,trivial⟩
     cases h2 with
     |agg _ ds hn hd=>
      have hw:cj g wd [sI .i64 a,sI .i64 b] ds.toList:=bq.ct hn hd
      refine VA.sD.2 ?_
      generalize ds.toList=us at hw
      match us,hw with
      |[x,y],hw=>
       obtain⟨w1,w2,_⟩:=hw
       cases w1 with
       |p _ _ w1=>cases w1 with
        |sc=>cases w2 with
         |p _ _ w2=>cases w2 with
          |sc=>exact⟨.p _ _ (.sc _),.p _ _ (.sc _),trivial⟩
theorem Er : ∀(k i:Nat),uE s k i≥0∨uE s k i = -1
 |0,_=> .inr rfl
 |k+1,i=>by
  simp only[uE]
  split
  · split
    · exact .inl (by omega)
    · exact Er k _
  · exact .inr rfl
theorem H8 (hs:s.data.toList.length≤1000000):aC Tryz.prog env 77 [.p (.ps s.data.toList.length 1 (vL s))] [] (sI .i64 (l7 s)) []:=by
 obtain⟨v,m',h⟩:=H7 s hs (s.size+1) 0 [] (by omega) (Nat.le_refl _)
 have hr:aC Tryz.prog env 114 [.p (.ps s.data.toList.length 1 (vL s))] [] (.aS [v,Qt (l7 s)]) m':=by
  refine ah names (MY s.data.toList.length (vL s)) ?_
  unfold H6 at h
  rw[if_pos rfl] at h
  exact h
 refine ah names (MZ s.data.toList.length (vL s) 0 [] (if l7 s≥0 then 4 else 0) (if l7 s≥0 then l7 s else 0)) ?_
 simp only[F9,Tree.ok]
 refine⟨M1 hr,fun q=> ?_,fun q=> ?_⟩
 · rcases Er s (s.size+1) 0 with g | g
   · have g:l7 s≥0:=g
     rw[if_pos g]
   · have g:l7 s = -1:=g
     rw[g] at q
     exact absurd q (by decide)
 · rcases Er s (s.size+1) 0 with g | g
   · have g:l7 s≥0:=g
     rw[if_pos g] at q
     exact absurd q (by decide)
   · have g:l7 s = -1:=g
     rw[g]
end
end Go.Proofs.YtdmmllcjgjmbbaaGreatDoor.N
end
section
namespace Go.Proofs.YtdmmllcjgjmbbaaGreatDoor.N
open Go Go.Am
def vM:Env where
 dj:=tX tabs
 wr:=wrs
 keep _ _:=none
def H9:b9:=⟨182,[.p (.sc (.string ⟨#[101,113,122,32,101,113,32,110,101,32,108,116,95,115,32,108,116,95,117,32,103,116,95,115,32,103,116,95,117,32,108,101,95,115,32,108,101,95,117,32,103,101,95,115,32,103,101,95,117]⟩))],[],.p (.ps 11 1 [.sc (.string ⟨#[101,113,122]⟩),.sc (.string ⟨#[101,113]⟩),.sc (.string ⟨#[110,101]⟩),.sc (.string ⟨#[108,116,95,115]⟩),.sc (.string ⟨#[108,116,95,117]⟩),.sc (.string ⟨#[103,116,95,115]⟩),.sc (.string ⟨#[103,116,95,117]⟩),.sc (.string ⟨#[108,101,95,115]⟩),.sc (.string ⟨#[108,101,95,117]⟩),.sc (.string ⟨#[103,101,95,115]⟩),.sc (.string ⟨#[103,101,95,117]⟩)]),[]⟩
theorem aa9:aC Tryz.prog vM H9.g H9.args H9.m H9.v H9.m':=ec names (K:=[]) jH (n:=10000000) (by kernel_rfl)
def VR:List b9:=H9::[]
theorem M3:eJ Tryz.prog vM VR:=fm aa9 jH
def Ia:b9:=⟨182,[.p (.sc (.string ⟨#[99,108,122,32,99,116,122,32,112,111,112,99,110,116,32,97,100,100,32,115,117,98,32,109,117,108,32,100,105,118,95,115,32,100,105,118,95,117,32,114,101,109,95,115,32,114,101,109,95,117,32,97,110,100,32,111,114,32,120,111,114,32,115,104,108,32,115,104,114,95,115,32,115,104,114,95,117,32,114,111,116,108,32,114,111,116,114]⟩))],[],.p (.ps 18 1 [.sc (.string ⟨#[99,108,122]⟩),.sc (.string ⟨#[99,116,122]⟩),.sc (.string ⟨#[112,111,112,99,110,116]⟩),.sc (.string ⟨#[97,100,100]⟩),.sc (.string ⟨#[115,117,98]⟩),.sc (.string ⟨#[109,117,108]⟩),.sc (.string ⟨#[100,105,118,95,115]⟩),.sc (.string ⟨#[100,105,118,95,117]⟩),.sc (.string ⟨#[114,101,109,95,115]⟩),.sc (.string ⟨#[114,101,109,95,117]⟩),.sc (.string ⟨#[97,110,100]⟩),.sc (.string ⟨#[111,114]⟩),.sc (.string ⟨#[120,111,114]⟩),.sc (.string ⟨#[115,104,108]⟩),.sc (.string ⟨#[115,104,114,95,115]⟩),.sc (.string ⟨#[115,104,114,95,117]⟩),.sc (.string ⟨#[114,111,116,108]⟩),.sc (.string ⟨#[114,111,116,114]⟩)]),[]⟩
theorem aba:aC Tryz.prog vM Ia.g Ia.args Ia.m Ia.v Ia.m':=ec names (K:=VR) M3 (n:=10000000) (by kernel_rfl)
def VS:List b9:=Ia::VR
theorem M4:eJ Tryz.prog vM VS:=fm aba M3
def Ib:b9:=⟨170,[],[],.agg [.p (.sc (.string ⟨#[117,110,114,101,97,99,104,97,98,108,101]⟩)),.p (.sc (.string ⟨#[110,111,112]⟩)),.p (.sc (.string ⟨#[98,108,111,99,107]⟩)),.p (.sc (.string ⟨#[108,111,111,112]⟩)),.p (.sc (.string ⟨#[105,102]⟩)),.p (.sc (.string ⟨#[]⟩)),.p (.sc (.string ⟨#[]⟩)),.p (.sc (.string ⟨#[]⟩)),.p (.sc (.string ⟨#[]⟩)),.p (.sc (.string ⟨#[]⟩)),.p (.sc (.string ⟨#[]⟩)),.p (.sc (.string ⟨#[]⟩)),.p (.sc (.string ⟨#[98,114]⟩)),.p (.sc (.string ⟨#[98,114,95,105,102]⟩)),.p (.sc (.string ⟨#[98,114,95,116,97,98,108,101]⟩)),.p (.sc (.string ⟨#[114,101,116,117,114,110]⟩)),.p (.sc (.string ⟨#[99,97,108,108]⟩)),.p (.sc (.string ⟨#[99,97,108,108,95,105,110,100,105,114,101,99,116]⟩)),.p (.sc (.string ⟨#[]⟩)),.p (.sc (.string ⟨#[]⟩)),.p (.sc (.string ⟨#[]⟩)),.p (.sc (.string ⟨#[]⟩)),.p (.sc (.string ⟨#[]⟩)),.p (.sc (.string ⟨#[]⟩)),.p (.sc (.string ⟨#[]⟩)),.p (.sc (.string ⟨#[]⟩)),.p (.sc (.string ⟨#[100,114,111,112]⟩)),.p (.sc (.string ⟨#[115,101,108,101,99,116]⟩)),.p (.sc (.string ⟨#[]⟩)),.p (.sc (.string ⟨#[]⟩)),.p (.sc (.string ⟨#[]⟩)),.p (.sc (.string ⟨#[]⟩)),.p (.sc (.string ⟨#[108,111,99,97,108,46,103,101,116]⟩)),.p (.sc (.string ⟨#[108,111,99,97,108,46,115,101,116]⟩)),.p (.sc (.string ⟨#[108,111,99,97,108,46,116,101,101]⟩)),.p (.sc (.string ⟨#[103,108,111,98,97,108,46,103,101,116]⟩)),.p (.sc (.string ⟨#[103,108,111,98,97,108,46,115,101,116]⟩)),.p (.sc (.string ⟨#[]⟩)),.p (.sc (.string ⟨#[]⟩)),.p (.sc (.string ⟨#[]⟩)),.p (.sc (.string ⟨#[105,51,50,46,108,111,97,100]⟩)),.p (.sc (.string ⟨#[]⟩)),.p (.sc (.string ⟨#[]⟩)),.p (.sc (.string ⟨#[]⟩)),.p (.sc (.string ⟨#[105,51,50,46,108,111,97,100,56,95,115]⟩)),.p (.sc (.string ⟨#[105,51,50,46,108,111,97,100,56,95,117]⟩)),.p (.sc (.string ⟨#[105,51,50,46,108,111,97,100,49,54,95,115]⟩)),.p (.sc (.string ⟨#[105,51,50,46,108,111,97,100,49,54,95,117]⟩)),.p (.sc (.string ⟨#[]⟩)),.p (.sc (.string ⟨#[]⟩)),.p (.sc (.string ⟨#[]⟩)),.p (.sc (.string ⟨#[]⟩)),.p (.sc (.string ⟨#[]⟩)),.p (.sc (.string ⟨#[]⟩)),.p (.sc (.string ⟨#[105,51,50,46,115,116,111,114,101]⟩)),.p (.sc (.string ⟨#[]⟩)),.p (.sc (.string ⟨#[]⟩)),.p (.sc (.string ⟨#[]⟩)),.p (.sc (.string ⟨#[105,51,50,46,115,116,111,114,101,56]⟩)),.p (.sc (.string ⟨#[105,51,50,46,115,116,111,114,101,49,54]⟩)),.p (.sc (.string ⟨#[]⟩)),.p (.sc (.string ⟨#[]⟩)),.p (.sc (.string ⟨#[]⟩)),.p (.sc (.string ⟨#[109,101,109,111,114,121,46,115,105,122,101]⟩)),.p (.sc (.string ⟨#[109,101,109,111,114,121,46,103,114,111,119]⟩)),.p (.sc (.string ⟨#[105,51,50,46,99,111,110,115,116]⟩)),.p (.sc (.string ⟨#[]⟩)),.p (.sc (.string ⟨#[]⟩)),.p (.sc (.string ⟨#[]⟩)),.p (.sc (.string ⟨#[105,51,50,46,101,113,122]⟩)),.p (.sc (.string ⟨#[105,51,50,46,101,113]⟩)),.p (.sc (.string ⟨#[105,51,50,46,110,101]⟩)),.p (.sc (.string ⟨#[105,51,50,46,108,116,95,115]⟩)),.p (.sc (.string ⟨#[105,51,50,46,108,116,95,117]⟩)),.p (.sc (.string ⟨#[105,51,50,46,103,116,95,115]⟩)),.p (.sc (.string ⟨#[105,51,50,46,103,116,95,117]⟩)),.p (.sc (.string ⟨#[105,51,50,46,108,101,95,115]⟩)),.p (.sc (.string ⟨#[105,51,50,46,108,101,95,117]⟩)),.p (.sc (.string ⟨#[105,51,50,46,103,101,95,115]⟩)),.p (.sc (.string ⟨#[105,51,50,46,103,101,95,117]⟩)),.p (.sc (.string ⟨#[]⟩)),.p (.sc (.string ⟨#[]⟩)),.p (.sc (.string ⟨#[]⟩)),.p (.sc (.string ⟨#[]⟩)),.p (.sc (.string ⟨#[]⟩)),.p (.sc (.string ⟨#[]⟩)),.p (.sc (.string ⟨#[]⟩)),.p (.sc (.string ⟨#[]⟩)),.p (.sc (.string ⟨#[]⟩)),.p (.sc (.string ⟨#[]⟩)),.p (.sc (.string ⟨#[]⟩)),.p (.sc (.string ⟨#[]⟩)),.p (.sc (.string ⟨#[]⟩)),.p (.sc (.string ⟨#[]⟩)),.p (.sc (.string ⟨#[]⟩)),.p (.sc (.string ⟨#[]⟩)),.p (.sc (.string ⟨#[]⟩)),.p (.sc (.string ⟨#[]⟩)),.p (.sc (.string ⟨#[]⟩)),.p (.sc (.string ⟨#[]⟩)),.p (.sc (.string ⟨#[]⟩)),.p (.sc (.string ⟨#[]⟩)),.p (.sc (.string ⟨#[]⟩)),.p (.sc (.string ⟨#[105,51,50,46,99,108,122]⟩)),.p (.sc (.string ⟨#[105,51,50,46,99,116,122]⟩)),.p (.sc (.string ⟨#[105,51,50,46,112,111,112,99,110,116]⟩)),.p (.sc (.string ⟨#[105,51,50,46,97,100,100]⟩)),.p (.sc (.string ⟨#[105,51,50,46,115,117,98]⟩)),.p (.sc (.string ⟨#[105,51,50,46,109,117,108]⟩)),.p (.sc (.string ⟨#[105,51,50,46,100,105,118,95,115]⟩)),.p (.sc (.string ⟨#[105,51,50,46,100,105,118,95,117]⟩)),.p (.sc (.string ⟨#[105,51,50,46,114,101,109,95,115]⟩)),.p (.sc (.string ⟨#[105,51,50,46,114,101,109,95,117]⟩)),.p (.sc (.string ⟨#[105,51,50,46,97,110,100]⟩)),.p (.sc (.string ⟨#[105,51,50,46,111,114]⟩)),.p (.sc (.string ⟨#[105,51,50,46,120,111,114]⟩)),.p (.sc (.string ⟨#[105,51,50,46,115,104,108]⟩)),.p (.sc (.string ⟨#[105,51,50,46,115,104,114,95,115]⟩)),.p (.sc (.string ⟨#[105,51,50,46,115,104,114,95,117]⟩)),.p (.sc (.string ⟨#[105,51,50,46,114,111,116,108]⟩)),.p (.sc (.string ⟨#[105,51,50,46,114,111,116,114]⟩)),.p (.sc (.string ⟨#[]⟩)),.p (.sc (.string ⟨#[]⟩)),.p (.sc (.string ⟨#[]⟩)),.p (.sc (.string ⟨#[]⟩)),.p (.sc (.string ⟨#[]⟩)),.p (.sc (.string ⟨#[]⟩)),.p (.sc (.string ⟨#[]⟩)),.p (.sc (.string ⟨#[]⟩)),.p (.sc (.string ⟨#[]⟩)),.p (.sc (.string ⟨#[]⟩)),.p (.sc (.string ⟨#[]⟩)),.p (.sc (.string ⟨#[]⟩)),.p (.sc (.string ⟨#[]⟩)),.p (.sc (.string ⟨#[]⟩)),.p (.sc (.string ⟨#[]⟩)),.p (.sc (.string ⟨#[]⟩)),.p (.sc (.string ⟨#[]⟩)),.p (.sc (.string ⟨#[]⟩)),.p (.sc (.string ⟨#[]⟩)),.p (.sc (.string ⟨#[]⟩)),.p (.sc (.string ⟨#[]⟩)),.p (.sc (.string ⟨#[]⟩)),.p (.sc (.string ⟨#[]⟩)),.p (.sc (.string ⟨#[]⟩)),.p (.sc (.string ⟨#[]⟩)),.p (.sc (.string ⟨#[]⟩)),.p (.sc (.string ⟨#[]⟩)),.p (.sc (.string ⟨#[]⟩)),.p (.sc (.string ⟨#[]⟩)),.p (.sc (.string ⟨#[]⟩)),.p (.sc (.string ⟨#[]⟩)),.p (.sc (.string ⟨#[]⟩)),.p (.sc (.string ⟨#[]⟩)),.p (.sc (.string ⟨#[]⟩)),.p (.sc (.string ⟨#[]⟩)),.p (.sc (.string ⟨#[]⟩)),.p (.sc (.string ⟨#[]⟩)),.p (.sc (.string ⟨#[]⟩)),.p (.sc (.string ⟨#[]⟩)),.p (.sc (.string ⟨#[]⟩)),.p (.sc (.string ⟨#[]⟩)),.p (.sc (.string ⟨#[]⟩)),.p (.sc (.string ⟨#[]⟩)),.p (.sc (.string ⟨#[]⟩)),.p (.sc (.string ⟨#[]⟩)),.p (.sc (.string ⟨#[]⟩)),.p (.sc (.string ⟨#[]⟩)),.p (.sc (.string ⟨#[]⟩)),.p (.sc (.string ⟨#[]⟩)),.p (.sc (.string ⟨#[]⟩)),.p (.sc (.string ⟨#[]⟩)),.p (.sc (.string ⟨#[]⟩)),.p (.sc (.string ⟨#[]⟩)),.p (.sc (.string ⟨#[]⟩)),.p (.sc (.string ⟨#[]⟩)),.p (.sc (.string ⟨#[]⟩)),.p (.sc (.string ⟨#[]⟩)),.p (.sc (.string ⟨#[]⟩)),.p (.sc (.string ⟨#[]⟩)),.p (.sc (.string ⟨#[]⟩)),.p (.sc (.string ⟨#[]⟩)),.p (.sc (.string ⟨#[]⟩)),.p (.sc (.string ⟨#[]⟩)),.p (.sc (.string ⟨#[]⟩)),.p (.sc (.string ⟨#[]⟩)),.p (.sc (.string ⟨#[]⟩)),.p (.sc (.string ⟨#[]⟩)),.p (.sc (.string ⟨#[]⟩)),.p (.sc (.string ⟨#[]⟩)),.p (.sc (.string ⟨#[]⟩)),.p (.sc (.string ⟨#[]⟩)),.p (.sc (.string ⟨#[]⟩)),.p (.sc (.string ⟨#[]⟩)),.p (.sc (.string ⟨#[]⟩)),.p (.sc (.string ⟨#[]⟩)),.p (.sc (.string ⟨#[]⟩)),.p (.sc (.string ⟨#[]⟩)),.p (.sc (.string ⟨#[]⟩)),.p (.sc (.string ⟨#[]⟩)),.p (.sc (.string ⟨#[]⟩)),.p (.sc (.string ⟨#[]⟩)),.p (.sc (.string ⟨#[]⟩)),.p (.sc (.string ⟨#[]⟩)),.p (.sc (.string ⟨#[]⟩)),.p (.sc (.string ⟨#[]⟩)),.p (.sc (.string ⟨#[]⟩)),.p (.sc (.string ⟨#[]⟩)),.p (.sc (.string ⟨#[]⟩)),.p (.sc (.string ⟨#[]⟩)),.p (.sc (.string ⟨#[]⟩)),.p (.sc (.string ⟨#[]⟩)),.p (.sc (.string ⟨#[]⟩)),.p (.sc (.string ⟨#[]⟩)),.p (.sc (.string ⟨#[]⟩)),.p (.sc (.string ⟨#[]⟩)),.p (.sc (.string ⟨#[]⟩)),.p (.sc (.string ⟨#[]⟩)),.p (.sc (.string ⟨#[]⟩)),.p (.sc (.string ⟨#[]⟩)),.p (.sc (.string ⟨#[]⟩)),.p (.sc (.string ⟨#[]⟩)),.p (.sc (.string ⟨#[]⟩)),.p (.sc (.string ⟨#[]⟩)),.p (.sc (.string ⟨#[]⟩)),.p (.sc (.string ⟨#[]⟩)),.p (.sc (.string ⟨#[]⟩)),.p (.sc (.string ⟨#[]⟩)),.p (.sc (.string ⟨#[]⟩)),.p (.sc (.string ⟨#[]⟩)),.p (.sc (.string ⟨#[]⟩)),.p (.sc (.string ⟨#[]⟩)),.p (.sc (.string ⟨#[]⟩)),.p (.sc (.string ⟨#[]⟩)),.p (.sc (.string ⟨#[]⟩)),.p (.sc (.string ⟨#[]⟩)),.p (.sc (.string ⟨#[]⟩)),.p (.sc (.string ⟨#[]⟩)),.p (.sc (.string ⟨#[]⟩)),.p (.sc (.string ⟨#[]⟩)),.p (.sc (.string ⟨#[]⟩)),.p (.sc (.string ⟨#[]⟩)),.p (.sc (.string ⟨#[]⟩)),.p (.sc (.string ⟨#[]⟩)),.p (.sc (.string ⟨#[]⟩)),.p (.sc (.string ⟨#[]⟩)),.p (.sc (.string ⟨#[]⟩)),.p (.sc (.string ⟨#[]⟩)),.p (.sc (.string ⟨#[]⟩)),.p (.sc (.string ⟨#[]⟩)),.p (.sc (.string ⟨#[]⟩)),.p (.sc (.string ⟨#[]⟩)),.p (.sc (.string ⟨#[]⟩)),.p (.sc (.string ⟨#[]⟩)),.p (.sc (.string ⟨#[]⟩)),.p (.sc (.string ⟨#[]⟩))],[]⟩
theorem abb:aC Tryz.prog vM Ib.g Ib.args Ib.m Ib.v Ib.m':=ec names (K:=VS) M4 (n:=10000000) (by kernel_rfl)
def VT:List b9:=Ib::VS
theorem M5:eJ Tryz.prog vM VT:=fm abb M4
def Ic:b9:=⟨27,[.agg [.os none 2 2 [.sc (.int .i64 0),.sc (.int .i64 1),.sc (.int .i64 2),.sc (.int .i64 0)],.os none 1 3 [.sc (.string ⟨#[104,111,115,116]⟩),.sc (.string ⟨#[102]⟩),.sc (.int .i64 1)],.os none 1 3 [.sc (.int .i64 0),.sc (.int .i64 0),.ps 1 8 [.sc (.int .i64 65),.sc (.int .i64 0),.sc (.int .u32 0),.sc (.int .u32 0),.sc (.int .i32 1),.ps 0 0 [],.ps 0 0 [],.ps 0 0 []]],.os none 0 0 [],.os none 0 0 [],.os none 0 0 [],.os none 1 3 [.sc (.string ⟨#[114,117,110]⟩),.sc (.int .i64 0),.sc (.int .u32 1)],.p (.sc (.bool false)),.p (.sc (.int .u32 0)),.os none 0 0 [],.os none 0 0 []]],[],.p (.sc (.int .i64 0)),[]⟩
theorem abc:aC Tryz.prog vM Ic.g Ic.args Ic.m Ic.v Ic.m':=ec names (K:=VT) M5 (n:=10000000) (by kernel_rfl)
def VU:List b9:=Ic::VT
theorem M6:eJ Tryz.prog vM VU:=fm abc M5
def Ie:b9:=⟨29,[.agg [.os none 2 2 [.sc (.int .i64 0),.sc (.int .i64 1),.sc (.int .i64 2),.sc (.int .i64 0)],.os none 1 3 [.sc (.string ⟨#[104,111,115,116]⟩),.sc (.string ⟨#[102]⟩),.sc (.int .i64 1)],.os none 1 3 [.sc (.int .i64 0),.sc (.int .i64 0),.ps 1 8 [.sc (.int .i64 65),.sc (.int .i64 0),.sc (.int .u32 0),.sc (.int .u32 0),.sc (.int .i32 1),.ps 0 0 [],.ps 0 0 [],.ps 0 0 []]],.os none 0 0 [],.os none 0 0 [],.os none 0 0 [],.os none 1 3 [.sc (.string ⟨#[114,117,110]⟩),.sc (.int .i64 0),.sc (.int .u32 1)],.p (.sc (.bool false)),.p (.sc (.int .u32 0)),.os none 0 0 [],.os none 0 0 []]],[],.p (.sc (.int .i64 0)),[]⟩
theorem abd:aC Tryz.prog vM Ie.g Ie.args Ie.m Ie.v Ie.m':=ec names (K:=VU) M6 (n:=10000000) (by kernel_rfl)
def Zc:List b9:=Ie::VU
theorem VV:eJ Tryz.prog vM Zc:=fm abd M6
theorem VW:aC Tryz.prog vM 17 [] [] (.p (.sc (.bool true))) []:=ec names (K:=Zc) VV (n:=10000000) (by kernel_rfl)
end Go.Proofs.YtdmmllcjgjmbbaaGreatDoor.N
end
section
set_option linter.unusedSimpArgs false
set_option linter.unusedVariables false
namespace Go.Proofs.YtdmmllcjgjmbbaaGreatDoor.N
open Go Go.Am
def QU (l:List (Nat×Nat×AV)) (f d:Nat):Option AV:=match l with
 |[]=>none
 |(f',d',v)::r=>cond (Nat.beq f f'&&Nat.beq d d') (some v) (QU r f d)
def M7:Env:={env with told:=QU [(3,52,sB true),(3,56,sB true),(3,61,sB true),(3,66,sB true),(3,71,sB true),(3,78,sB true)]}
def lwQ (M:Mo) (a:Nat) (nm:ByteArray) (kd:Int) (lg:Bool) (p q:Int) (b1:Bool) (x:Int) (b2:Bool) (c z:Int) (k:Nat) (f:FuncId) (_:List AV) (m:Mem):Option (AV×Mem):=
 match f with
 |6=>some (sB lg,m)
 |7=>some (.agg (M.aE.map .p),m)
 |8=>some (.aS [.agg [sI .i64 p,sI .i64 q],sB b1],m)
 |9=>some (.aS [.agg [sI .i64 p,sI .i64 q],sB b1],m)
 |10=>some (.aS [sI .u32 x,sB b2],m)
 |11=>some (.aS [sI .u32 x,sB b2],m)
 |12=>some (sI .i64 c,m)
 |13=>some (sI .i64 c,m)
 |14=>some (sI .i64 z,m)
 |15=>some (sI .i64 z,m)
 |16=>some (sB true,m)
 |17=>some (sB true,m)
 |_=>none
noncomputable def VX:bu:=aK av az [] [(3,0,0)] [(3,0,1)]
noncomputable def Zd (M:Mo) (a:Nat) (nm:ByteArray) (kd:Int) (lg:Bool) (p q:Int) (b1:Bool) (x:Int) (b2:Bool) (c z:Int):Sc:=(.ans 6 (.p (.sc (.bool lg))) ([]) (.fork .fin (.ans 7 (.agg (List.map AV.p M.aE)) ([]) (.ans 8 (.aS [.agg [sI .i64 p,sI .i64 q],.p (.sc (.bool b1))]) ([]) (.ans 9 (.aS [.agg [sI .i64 p,sI .i64 q],.p (.sc (.bool b1))]) ([]) (.ans 10 (.aS [sI .u32 x,.p (.sc (.bool b2))]) ([]) (.ans 11 (.aS [sI .u32 x,.p (.sc (.bool b2))]) ([]) (.tU 3 8 (lwQ M a nm kd lg p q b1 x b2 c z 6) .fin))))))))
noncomputable def Gb (M:Mo) (a:Nat) (nm:ByteArray) (kd:Int) (lg:Bool) (p q:Int) (b1:Bool) (x:Int) (b2:Bool) (c z:Int):Tree:=
 (.call ⟨6,[.agg (List.map AV.p M.aE),sI .i64 5000],[],.p (.sc (.bool lg)),[]⟩
 (.test (lg)
 (.must true
 (.out (.ret (sB true) [])))
 (.call ⟨7,[.agg (List.map AV.p M.aE)],[],.agg (List.map AV.p M.aE),[]⟩
 (.call ⟨8,[.agg (List.map AV.p M.aE),sI .u32 (↑a:Int)],[],.aS [.agg [sI .i64 p,sI .i64 q],.p (.sc (.bool b1))],[]⟩
 (.call ⟨9,[.agg (List.map AV.p M.aE),sI .u32 (↑a:Int)],[],.aS [.agg [sI .i64 p,sI .i64 q],.p (.sc (.bool b1))],[]⟩
 (.call ⟨10,[.agg (List.map AV.p M.aE),.p (.sc (.string nm)),sI .i64 kd],[],.aS [sI .u32 x,.p (.sc (.bool b2))],[]⟩
 (.call ⟨11,[.agg (List.map AV.p M.aE),.p (.sc (.string nm)),sI .i64 kd],[],.aS [sI .u32 x,.p (.sc (.bool b2))],[]⟩
 (.call ⟨12,[.agg (List.map AV.p M.aE)],[],sI .i64 c,[]⟩
 (.call ⟨13,[.agg (List.map AV.p M.aE)],[],sI .i64 c,[]⟩
 (.call ⟨14,[.agg (List.map AV.p M.aE)],[],sI .i64 z,[]⟩
 (.call ⟨15,[.agg (List.map AV.p M.aE)],[],sI .i64 z,[]⟩
 (.call ⟨16,[.agg (List.map AV.p M.aE),.agg (List.map AV.p M.aE)],[],sB true,[]⟩
 (.call ⟨17,[],[],sB true,[]⟩
 (.must (eL (.p (.sc (.bool (c==c)))) (sB true)&&(eL (.p (.sc (.bool ((fun r=>p==p&&r) ((fun r=>q==q&&r) true))))) (sB true)&&(eL (.p (.sc (.bool (b1==b1)))) (sB true)&&(eL (.p (.sc (.bool (x==x)))) (sB true)&&(eL (.p (.sc (.bool (b2==b2)))) (sB true)&&(eL (.p (.sc (.bool (z==z)))) (sB true)&&true)))))&&true)
 (.must true
 (.out (.ret (sB true) [])))))))))))))))))
theorem M8 (M:Mo) (a:Nat) (nm:ByteArray) (kd:Int) (lg:Bool) (p q:Int) (b1:Bool) (x:Int) (b2:Bool) (c z:Int):aR Tryz.prog M7 VX 1000000 3 ([AV.agg (List.map AV.p M.aE),sI IntKind.u32 (↑a:Int),AV.p (PV.sc (Value.string nm)),sI IntKind.i64 kd]) ([]) (Zd M a nm kd lg p q b1 x b2 c z)=Gb M a nm kd lg p q b1 x b2 c z:=by kernel_rfl
theorem aC.M9 {f:FuncId} {args:List AV} {m m':Mem} {v:AV} (h:aC Tryz.prog env f args m v m'):aC Tryz.prog M7 f args m v m':=h.env fun _ _ q=>q
theorem Na (M:Mo) (h:eH M=false):AI M:=fun x hx=>by
 have b:=(List.any_eq_false.1 h) x hx
 simp only[x7,decide_eq_true_eq] at b
 exact H8 (s:=x) (by omega)
theorem VY (o:Option Ty) : ∃p q b,Ct o = .aS [.agg [sI .i64 p,sI .i64 q],sB b]:=by
 cases o with
 |none=>exact⟨0,0,false,rfl⟩
 |some y=>exact⟨y.p,y.r,true,rfl⟩
theorem VZ (o:Option Ex) : ∃x b,Zu o = .aS [sI .u32 x,sB b]:=by
 cases o with
 |none=>exact⟨0,false,rfl⟩
 |some y=>exact⟨y.ix,true,rfl⟩
theorem Qu (M:Mo) (hw:M.wf) (hs:M.short) (a:Int) (ha:(Lit.int .u32 a).wf=true) (nm:ByteArray) (kd:Int):aC Tryz.prog M7 3 [.agg (M.aE.map .p),sI .u32 a,.p (.sc (.string nm)),sI .i64 kd] [] (sB true) []:=by
 have hb:IntKind.u32.min≤a∧a≤IntKind.u32.max:=by simpa[Lit.wf] using ha
 have h0:0≤a:=hb.1
 have h1:a≤4294967295:=hb.2
 obtain⟨n,rfl⟩:=Int.eq_ofNat_of_zero_le h0
 have haw:aC Tryz.prog M7 17 [] [] (sB true) []:=Go.Am.aC.env VW fun _ _ q=>q
 have hlg:=aC.M9 (D3 M hw hs)
 obtain⟨p,q,b1,e1⟩:=VY (Mq M n)
 obtain⟨x,b2,e2⟩:=VZ (M.exs.find? (gQ nm kd))
 refine ah names (M8 M n nm kd (l8 M) p q b1 x b2 (yj M) (rj M)) ?_
 simp only[Gb,Tree.ok]
 refine⟨hlg,fun _=>⟨(by first | rfl | trivial),(by first | rfl | trivial)⟩,fun hl=> ?_⟩
 obtain⟨hf,Nc,h5⟩:=Hp hl
 have hn:=P4 hl
 have hel:M.els.length≤5000:=by unfold lens at h5;omega
 have t1:=Mr M hf n (by omega)
 have t2:=Ms M hf n (by omega)
 have f1:=HI M hf nm kd
 have f2:=Ef M hf nm kd
 rw[e1] at t1 t2
 rw[e2] at f1 f2
 refine⟨aC.M9 (Ej M hf hn),aC.M9 t1,aC.M9 t2,aC.M9 f1,aC.M9 f2,aC.M9 (Ch M hf hw Nc),aC.M9 (Ec M hf Nc hel (Na M)),aC.M9 (HJ M hf Nc),aC.M9 (Eg M hf Nc),aC.M9 (Eo M hf hn),haw,?_,?_⟩
 · simp only[beq_self_eq_true,Bool.and_self,Bool.and_true,eL,kV,Ew]
   try rfl
 · first | exact⟨rfl,rfl⟩ | exact⟨trivial,rfl⟩ | exact⟨rfl,trivial⟩ | trivial
end Go.Proofs.YtdmmllcjgjmbbaaGreatDoor.N
end
