import Derived.Test.YtncncijedmfpjaaGreatDoorMO
open Go.IntKind renaming i64→re,u8→ajw
open Go.Proofs.Tryz renaming prog→ae
open List renaming getD_eq_getElem?_getD→de,getElem?_eq_getElem→da,length_append→dC
open Bool renaming not_eq_false'→ajo,true_eq_false→ajE,and_eq_true→di,not_eq_true'→iv,and_true→ajQ,and_eq_false_iff→akr,eq_iff_iff→ahx,or_eq_true→iu
open Int renaming toNat_natCast→afm,one_ne_zero→akw
open Go.Utf8 renaming decode→aj2
open Go.Lib renaming decodeN→aj5,decode_at→aj7
noncomputable section
section
set_option linter.unusedSimpArgs false
set_option linter.unusedVariables false
namespace Go.Proofs.YtncncijedmfpjaaGreatDoor.N
open Go Go.Am
def acD:bA:=aM aE aC [] [(140,0,0),(140,4,3),(140,0,1),(140,6,3),(140,0,2),(140,8,3),(140,0,3)] []
def ahr:Sc:=(.fork .fin (.fork (.fork .fin (.yes (.fork .fin (.yes .fin)))) (.lit (.no (.lit (.no (.lit .fin)))))))
def KY (c:Int):aA:=
 (.test (decide (c<128))
 (.out (.ret (.aK [sI .i64 (re.wrap c),sI .i64 0,sB true]) []))
 (.test (decide (c≥192))
 (.test (decide (c<224))
 (.out (.ret (.aK [sI .i64 (re.wrap (re.wrap c-192)),sI .i64 1,sB true]) []))
 (.must (decide (c≥224))
 (.test (decide (c<240))
 (.out (.ret (.aK [sI .i64 (re.wrap (re.wrap c-224)),sI .i64 2,sB true]) []))
 (.must (decide (c≥240))
 (.test (decide (c<248))
 (.out (.ret (.aK [sI .i64 (re.wrap (re.wrap c-240)),sI .i64 3,sB true]) []))
 (.out (.ret (.aK [sI .i64 0,sI .i64 0,sB false]) [])))))))
 (.must (!(decide (c≥224)))
 (.must (!(decide (c≥240)))
 (.out (.ret (.aK [sI .i64 0,sI .i64 0,sB false]) []))))))
theorem Sg (c:Int):aI ae env acD 1000000 140 ([sI ajw c]) ([]) ahr=KY c:=by kernel_rfl
def acE:bA:=aM aE aC [] [(141,2,5),(141,2,12),(141,0,0)] [(141,2,7),(141,2,8),(141,2,14),(141,2,15),(141,4,2),(141,4,3)]
def ahs:Sc:=(.fork (.lit (.lit .fin)) (.fork (.lit .fin) .fin))
def DW (n:Nat) (cs:List PV) (i:Int):aA:=
 (.test (decide (i≥(↑n:Int)))
 (.out (.ret (.aK [sI .i64 0,sB false]) []))
 (.must (aP i n&&true&&true)
 (.must (isInt ajw (aq cs (i.toNat*1))&&true)
 (.test (decide (au (aq cs (i.toNat*1))<128))
 (.out (.ret (.aK [sI .i64 0,sB false]) []))
 (.must (aP i n&&true&&true)
 (.must (isInt ajw (aq cs (i.toNat*1))&&true)
 (.test (decide (au (aq cs (i.toNat*1))≥192))
 (.out (.ret (.aK [sI .i64 0,sB false]) []))
 (.must (aP i n&&true&&true)
 (.must (isInt ajw (aq cs (i.toNat*1))&&true)
 (.out (.ret (.aK [sI .i64 (re.wrap (re.wrap (au (aq cs (i.toNat*1)))-128)),sB true]) [])))))))))))
theorem Sh (n:Nat) (cs:List PV) (i:Int):aI ae env acE 1000000 141 ([AV.p (PV.ps n 1 cs),sI re i]) ([]) ahs=DW n cs i:=by kernel_rfl
def acF:bA:=aM aE aC [] [(142,2,3),(142,2,7),(142,2,10)] []
def aht:Sc:=(.fork .fin (.lit .fin))
def KZ (n:Int):aA:=
 (.test (decide (n≥0))
 (.test (decide (n≤1114111))
 (.test (decide (n<55296))
 gj
 (.out (.ret (.p (.sc (.bool (decide (n>57343))))) [])))
 (.out (.ret (sB false) [])))
 (.out (.ret (sB false) [])))
theorem Si (n:Int):aI ae env acF 1000000 142 ([sI re n]) ([]) aht=KZ n:=by kernel_rfl
def acG:bA:=aM aE aC [] [(143,0,0),(143,0,1),(143,0,2)] []
def ahu:Sc:= .fin
def Wb (n:Int):aA:=
 (.test (decide (n<128))
 (.out (.ret (.os none 1 1 [.sc (.int .u8 (ajw.wrap n))]) []))
 (.test (decide (n<2048))
 (.out (.ret (.os none 2 1 [.sc (.int .u8 (ajw.wrap (re.wrap (192+re.wrap (n.tdiv 64))))),.sc (.int .u8 (ajw.wrap (re.wrap (128+n.tmod 64))))]) []))
 (.test (decide (n<65536))
 (.out (.ret (.os none 3 1 [.sc (.int .u8 (ajw.wrap (re.wrap (224+re.wrap (n.tdiv 4096))))),.sc (.int .u8 (ajw.wrap (re.wrap (128+(re.wrap (n.tdiv 64)).tmod 64)))),.sc (.int .u8 (ajw.wrap (re.wrap (128+n.tmod 64))))]) []))
 (.out (.ret (.os none 4 1 [.sc (.int .u8 (ajw.wrap (re.wrap (240+re.wrap (n.tdiv 262144))))),.sc (.int .u8 (ajw.wrap (re.wrap (128+(re.wrap (n.tdiv 4096)).tmod 64)))),.sc (.int .u8 (ajw.wrap (re.wrap (128+(re.wrap (n.tdiv 64)).tmod 64)))),.sc (.int .u8 (ajw.wrap (re.wrap (128+n.tmod 64))))]) [])))))
theorem Sj (n:Int):aI ae env acG 1000000 143 ([sI re n]) ([]) ahu=Wb n:=by kernel_rfl
def Wc:bA:=aM aE aC [] [(128,12,6)] [(128,2,2),(128,2,3)]
def acH (n:Nat) (cs:List PV) (i:Nat) (n0 t1 t2 t3:Int) (b1:Bool) (b2:Bool) (b3:Bool) (rn:Bool) (k:Nat) (os:List PV):Sc:=(.ans 140 (.aK [sI .i64 n0,sI .i64 0,sB true]) ([]) (.ans 142 (.p (.sc (.bool rn))) ([]) (.fork (.ans 143 (.p (.ps k 1 os)) ([]) .fin) .fin)))
def Gg (n:Nat) (cs:List PV) (i:Nat) (n0 t1 t2 t3:Int) (b1:Bool) (b2:Bool) (b3:Bool) (rn:Bool) (k:Nat) (os:List PV):aA:=
 (.must (aP (↑i:Int) n&&true&&true)
 (.must (isInt ajw (aq cs (aB i*1))&&true)
 (.call ⟨140,[sI .u8 (au (aq cs (aB i*1)))],[],.aK [sI .i64 n0,sI .i64 0,sB true],[]⟩
 (.call ⟨142,[sI .i64 n0],[],.p (.sc (.bool rn)),[]⟩
 (.test (rn)
 (.call ⟨143,[sI .i64 n0],[],.p (.ps k 1 os),[]⟩
 (.out (.ret (.aK [sI .i64 n0,sI .i64 1,.p (.sc (.bool ((↑k:Int)==1)))]) [])))
 (.out (.ret (.aK [sI .i64 n0,sI .i64 1,sB false]) [])))))))
theorem MS (n:Nat) (cs:List PV) (i:Nat) (n0 t1 t2 t3:Int) (b1:Bool) (b2:Bool) (b3:Bool) (rn:Bool) (k:Nat) (os:List PV):aI ae env Wc 1000000 128 ([AV.p (PV.ps n 1 cs),sI re (↑i:Int)]) ([]) (acH n cs i n0 t1 t2 t3 b1 b2 b3 rn k os)=Gg n cs i n0 t1 t2 t3 b1 b2 b3 rn k os:=by kernel_rfl
def Wd:bA:=aM aE aC [] [(128,0,3),(128,12,6)] [(128,2,2),(128,2,3)]
def acI (n:Nat) (cs:List PV) (i:Nat) (n0 t1 t2 t3:Int) (b1:Bool) (b2:Bool) (b3:Bool) (rn:Bool) (k:Nat) (os:List PV):Sc:=(.ans 140 (.aK [sI .i64 n0,sI .i64 1,sB true]) ([]) (.ans 141 (.aK [sI .i64 t1,.p (.sc (.bool b1))]) ([]) (.fork .fin (.ans 142 (.p (.sc (.bool rn))) ([]) (.fork (.ans 143 (.p (.ps k 1 os)) ([]) .fin) .fin)))))
def Gi (n:Nat) (cs:List PV) (i:Nat) (n0 t1 t2 t3:Int) (b1:Bool) (b2:Bool) (b3:Bool) (rn:Bool) (k:Nat) (os:List PV):aA:=
 (.must (aP (↑i:Int) n&&true&&true)
 (.must (isInt ajw (aq cs (aB i*1))&&true)
 (.call ⟨140,[sI .u8 (au (aq cs (aB i*1)))],[],.aK [sI .i64 n0,sI .i64 1,sB true],[]⟩
 (.call ⟨141,[.p (.ps n 1 cs),sI .i64 (re.wrap ((↑i:Int)+1))],[],.aK [sI .i64 t1,.p (.sc (.bool b1))],[]⟩
 (.test (!b1)
 (.out (.ret (.aK [sI .i64 0,sI .i64 0,sB false]) []))
 (.call ⟨142,[sI .i64 (re.wrap (re.wrap (64*n0)+t1))],[],.p (.sc (.bool rn)),[]⟩
 (.test (rn)
 (.call ⟨143,[sI .i64 (re.wrap (re.wrap (64*n0)+t1))],[],.p (.ps k 1 os),[]⟩
 (.out (.ret (.aK [sI .i64 (re.wrap (re.wrap (64*n0)+t1)),sI .i64 2,.p (.sc (.bool ((↑k:Int)==2)))]) [])))
 (.out (.ret (.aK [sI .i64 (re.wrap (re.wrap (64*n0)+t1)),sI .i64 2,sB false]) [])))))))))
theorem MT (n:Nat) (cs:List PV) (i:Nat) (n0 t1 t2 t3:Int) (b1:Bool) (b2:Bool) (b3:Bool) (rn:Bool) (k:Nat) (os:List PV):aI ae env Wd 1000000 128 ([AV.p (PV.ps n 1 cs),sI re (↑i:Int)]) ([]) (acI n cs i n0 t1 t2 t3 b1 b2 b3 rn k os)=Gi n cs i n0 t1 t2 t3 b1 b2 b3 rn k os:=by kernel_rfl
def We:bA:=aM aE aC [] [(128,0,3),(128,12,6)] [(128,2,2),(128,2,3)]
def acJ (n:Nat) (cs:List PV) (i:Nat) (n0 t1 t2 t3:Int) (b1:Bool) (b2:Bool) (b3:Bool) (rn:Bool) (k:Nat) (os:List PV):Sc:=(.ans 140 (.aK [sI .i64 n0,sI .i64 2,sB true]) ([]) (.ans 141 (.aK [sI .i64 t1,.p (.sc (.bool b1))]) ([]) (.fork .fin (.ans 141 (.aK [sI .i64 t2,.p (.sc (.bool b2))]) ([]) (.fork .fin (.ans 142 (.p (.sc (.bool rn))) ([]) (.fork (.ans 143 (.p (.ps k 1 os)) ([]) .fin) .fin)))))))
def Gj (n:Nat) (cs:List PV) (i:Nat) (n0 t1 t2 t3:Int) (b1:Bool) (b2:Bool) (b3:Bool) (rn:Bool) (k:Nat) (os:List PV):aA:=
 (.must (aP (↑i:Int) n&&true&&true)
 (.must (isInt ajw (aq cs (aB i*1))&&true)
 (.call ⟨140,[sI .u8 (au (aq cs (aB i*1)))],[],.aK [sI .i64 n0,sI .i64 2,sB true],[]⟩
 (.call ⟨141,[.p (.ps n 1 cs),sI .i64 (re.wrap ((↑i:Int)+1))],[],.aK [sI .i64 t1,.p (.sc (.bool b1))],[]⟩
 (.test (!b1)
 (.out (.ret (.aK [sI .i64 0,sI .i64 0,sB false]) []))
 (.call ⟨141,[.p (.ps n 1 cs),sI .i64 (re.wrap ((↑i:Int)+2))],[],.aK [sI .i64 t2,.p (.sc (.bool b2))],[]⟩
 (.test (!b2)
 (.out (.ret (.aK [sI .i64 0,sI .i64 0,sB false]) []))
 (.call ⟨142,[sI .i64 (re.wrap (re.wrap (64*re.wrap (re.wrap (64*n0)+t1))+t2))],[],.p (.sc (.bool rn)),[]⟩
 (.test (rn)
 (.call ⟨143,[sI .i64 (re.wrap (re.wrap (64*re.wrap (re.wrap (64*n0)+t1))+t2))],[],.p (.ps k 1 os),[]⟩
 (.out (.ret (.aK [sI .i64 (re.wrap (re.wrap (64*re.wrap (re.wrap (64*n0)+t1))+t2)),sI .i64 3,.p (.sc (.bool ((↑k:Int)==3)))]) [])))
 (.out (.ret (.aK [sI .i64 (re.wrap (re.wrap (64*re.wrap (re.wrap (64*n0)+t1))+t2)),sI .i64 3,sB false]) [])))))))))))
theorem MU (n:Nat) (cs:List PV) (i:Nat) (n0 t1 t2 t3:Int) (b1:Bool) (b2:Bool) (b3:Bool) (rn:Bool) (k:Nat) (os:List PV):aI ae env We 1000000 128 ([AV.p (PV.ps n 1 cs),sI re (↑i:Int)]) ([]) (acJ n cs i n0 t1 t2 t3 b1 b2 b3 rn k os)=Gj n cs i n0 t1 t2 t3 b1 b2 b3 rn k os:=by kernel_rfl
def Wf:bA:=aM aE aC [] [(128,0,3),(128,12,6)] [(128,2,2),(128,2,3)]
def acK (n:Nat) (cs:List PV) (i:Nat) (n0 t1 t2 t3:Int) (b1:Bool) (b2:Bool) (b3:Bool) (rn:Bool) (k:Nat) (os:List PV):Sc:=(.ans 140 (.aK [sI .i64 n0,sI .i64 3,sB true]) ([]) (.ans 141 (.aK [sI .i64 t1,.p (.sc (.bool b1))]) ([]) (.fork .fin (.ans 141 (.aK [sI .i64 t2,.p (.sc (.bool b2))]) ([]) (.fork .fin (.ans 141 (.aK [sI .i64 t3,.p (.sc (.bool b3))]) ([]) (.fork .fin (.ans 142 (.p (.sc (.bool rn))) ([]) (.fork (.ans 143 (.p (.ps k 1 os)) ([]) .fin) .fin)))))))))
def nr:aA:=
 (.out (.ret (.aK [sI .i64 0,sI .i64 0,sB false]) []))
def Gk (n:Nat) (cs:List PV) (i:Nat) (n0 t1 t2 t3:Int) (b1:Bool) (b2:Bool) (b3:Bool) (rn:Bool) (k:Nat) (os:List PV):aA:=
 (.must (aP (↑i:Int) n&&true&&true)
 (.must (isInt ajw (aq cs (aB i*1))&&true)
 (.call ⟨140,[sI .u8 (au (aq cs (aB i*1)))],[],.aK [sI .i64 n0,sI .i64 3,sB true],[]⟩
 (.call ⟨141,[.p (.ps n 1 cs),sI .i64 (re.wrap ((↑i:Int)+1))],[],.aK [sI .i64 t1,.p (.sc (.bool b1))],[]⟩
 (.test (!b1)
 (nr)
 (.call ⟨141,[.p (.ps n 1 cs),sI .i64 (re.wrap ((↑i:Int)+2))],[],.aK [sI .i64 t2,.p (.sc (.bool b2))],[]⟩
 (.test (!b2)
 (nr)
 (.call ⟨141,[.p (.ps n 1 cs),sI .i64 (re.wrap ((↑i:Int)+3))],[],.aK [sI .i64 t3,.p (.sc (.bool b3))],[]⟩
 (.test (!b3)
 (nr)
 (.call ⟨142,[sI .i64 (re.wrap (re.wrap (64*re.wrap (re.wrap (64*re.wrap (re.wrap (64*n0)+t1))+t2))+t3))],[],.p (.sc (.bool rn)),[]⟩
 (.test (rn)
 (.call ⟨143,[sI .i64 (re.wrap (re.wrap (64*re.wrap (re.wrap (64*re.wrap (re.wrap (64*n0)+t1))+t2))+t3))],[],.p (.ps k 1 os),[]⟩
 (.out (.ret (.aK [sI .i64 (re.wrap (re.wrap (64*re.wrap (re.wrap (64*re.wrap (re.wrap (64*n0)+t1))+t2))+t3)),sI .i64 4,.p (.sc (.bool ((↑k:Int)==4)))]) [])))
 (.out (.ret (.aK [sI .i64 (re.wrap (re.wrap (64*re.wrap (re.wrap (64*re.wrap (re.wrap (64*n0)+t1))+t2))+t3)),sI .i64 4,sB false]) [])))))))))))))
theorem MV (n:Nat) (cs:List PV) (i:Nat) (n0 t1 t2 t3:Int) (b1:Bool) (b2:Bool) (b3:Bool) (rn:Bool) (k:Nat) (os:List PV):aI ae env Wf 1000000 128 ([AV.p (PV.ps n 1 cs),sI re (↑i:Int)]) ([]) (acK n cs i n0 t1 t2 t3 b1 b2 b3 rn k os)=Gk n cs i n0 t1 t2 t3 b1 b2 b3 rn k os:=by kernel_rfl
def Wg:bA:=aM aE aC [] [] [(128,2,2),(128,2,3)]
def acL (n:Nat) (cs:List PV) (i:Nat) (n0 t1 t2 t3:Int) (b1:Bool) (b2:Bool) (b3:Bool) (rn:Bool) (k:Nat) (os:List PV):Sc:=(.ans 140 (.aK [sI .i64 n0,sI .i64 0,sB false]) ([]) .fin)
def Gm (n:Nat) (cs:List PV) (i:Nat) (n0 t1 t2 t3:Int) (b1:Bool) (b2:Bool) (b3:Bool) (rn:Bool) (k:Nat) (os:List PV):aA:=
 (.must (aP (↑i:Int) n&&true&&true)
 (.must (isInt ajw (aq cs (aB i*1))&&true)
 (.call ⟨140,[sI .u8 (au (aq cs (aB i*1)))],[],.aK [sI .i64 n0,sI .i64 0,sB false],[]⟩
 (.out (.ret (.aK [sI .i64 0,sI .i64 0,sB false]) [])))))
theorem MW (n:Nat) (cs:List PV) (i:Nat) (n0 t1 t2 t3:Int) (b1:Bool) (b2:Bool) (b3:Bool) (rn:Bool) (k:Nat) (os:List PV):aI ae env Wg 1000000 128 ([AV.p (PV.ps n 1 cs),sI re (↑i:Int)]) ([]) (acL n cs i n0 t1 t2 t3 b1 b2 b3 rn k os)=Gm n cs i n0 t1 t2 t3 b1 b2 b3 rn k os:=by kernel_rfl
def acM:bA:=aM aE aC [(121,0)] [] []
def ahv:Sc:= .fin
def Wh (n:Nat) (cs:List PV):aA:=
 (.at (ah ae env 121 0 [.p (.ps n 1 cs),.mp 0 0,bB,sI .i64 0] ([.pc [sP 0,sP 0]]) 0 33))
theorem Sk (n:Nat) (cs:List PV):aI ae env acM 1000000 121 ([AV.p (PV.ps n 1 cs)]) ([]) ahv=Wh n cs:=by kernel_rfl
def Wi:bA:=aM aE aC [(121,0)] [(121,0,1),(121,0,2)] []
def acN (n:Nat) (cs:List PV) (i:Nat) (k:Nat) (a:List PV) (v z:Int) (ok:Bool):Sc:=(.fork (.ans 128 (.aK [sI .i64 v,sI .i64 z,.p (.sc (.bool ok))]) ([]) .fin) .fin)
def oS (n:Nat) (cs:List PV) (i:Nat) (k:Nat) (a:List PV) (v z:Int) (ok:Bool):aA:=
 (.test (decide ((↑i:Int)<(↑n:Int)))
 (.call ⟨128,[.p (.ps n 1 cs),sI .i64 (↑i:Int)],[],.aK [sI .i64 v,sI .i64 z,.p (.sc (.bool ok))],[]⟩
 (.test (!ok)
 (.out (.ret (.aK [bB,.agg [sI .i64 4,sI .i64 (↑i:Int)]]) []))
 (.at (ah ae env 121 0 [.p (.ps n 1 cs),.mp 0 0,.os (some 1) 1 1 [sP v],sI .i64 (re.wrap ((↑i:Int)+z))] ([.pc [sP 0,sP 0],.tok]) 0 33))))
 (.out (.ret (.aK [bB,.agg [sI .i64 0,sI .i64 0]]) [])))
theorem pN (n:Nat) (cs:List PV) (i:Nat) (k:Nat) (a:List PV) (v z:Int) (ok:Bool):grow ae env Wi 1000000 true (ah ae env 121 0 ([AV.p (PV.ps n 1 cs),AV.mp 0 0,AV.os Option.none 0 0 [],sI re (↑i:Int)]) ([bq.pc [PV.sc (Value.int re 0),PV.sc (Value.int re 0)]]) 0 33) (acN n cs i k a v z ok) atEnd=oS n cs i k a v z ok:=by kernel_rfl
def Wj:bA:=aM aE aC [(121,0)] [(121,0,1),(121,0,2)] [(121,8,3)]
def acO (n:Nat) (cs:List PV) (i:Nat) (k:Nat) (a:List PV) (v z:Int) (ok:Bool):Sc:=(.fork (.ans 128 (.aK [sI .i64 v,sI .i64 z,.p (.sc (.bool ok))]) ([]) .fin) .fin)
def oU (n:Nat) (cs:List PV) (i:Nat) (k:Nat) (a:List PV) (v z:Int) (ok:Bool):aA:=
 (.test (decide ((↑i:Int)<(↑n:Int)))
 (.call ⟨128,[.p (.ps n 1 cs),sI .i64 (↑i:Int)],[],.aK [sI .i64 v,sI .i64 z,.p (.sc (.bool ok))],[]⟩
 (.test (!ok)
 (.out (.ret (.aK [bB,.agg [sI .i64 4,sI .i64 (↑i:Int)]]) []))
 (.must (((k+1)*8).ble aR&&(k+1).ble aR&&true)
 (.at (ah ae env 121 0 [.p (.ps n 1 cs),.mp 0 0,.os (some 1) (k+1) 1 (a++[sP v]),sI .i64 (re.wrap ((↑i:Int)+z))] ([.pc [sP 0,sP 0],.tok]) 0 33)))))
 (.out (.ret (.aK [.os (some 0) k 1 a,.agg [sI .i64 0,sI .i64 0]]) [.tok])))
theorem pO (n:Nat) (cs:List PV) (i:Nat) (k:Nat) (a:List PV) (v z:Int) (ok:Bool):grow ae env Wj 1000000 true (ah ae env 121 0 ([AV.p (PV.ps n 1 cs),AV.mp 0 0,AV.os (Option.some 1) k 1 a,sI re (↑i:Int)]) ([bq.pc [PV.sc (Value.int re 0),PV.sc (Value.int re 0)],bq.tok]) 0 33) (acO n cs i k a v z ok) atEnd=oU n cs i k a v z ok:=by kernel_rfl
def acP:bA:=aM aE aC [] [(102,0,0)] []
def ahw (n:Nat) (cs:List PV) (k:Nat) (l:List PV) (e p:Int):Sc:=(.ans 121 (.aK [.bC,.agg [sI .i64 e,sI .i64 p]]) ([]) .fin)
def K0 (n:Nat) (cs:List PV) (k:Nat) (l:List PV) (e p:Int):aA:=
 (.call ⟨121,[.p (.ps n 1 cs)],[],.aK [.bC,.agg [sI .i64 e,sI .i64 p]],[]⟩
 (.test (e != 0)
 (.out (.ret (sI .i64 p) []))
 (.out (.ret (sI .i64 (-1)) []))))
theorem Sl (n:Nat) (cs:List PV) (k:Nat) (l:List PV) (e p:Int):aI ae env acP 1000000 102 ([AV.p (PV.ps n 1 cs)]) ([]) (ahw n cs k l e p)=K0 n cs k l e p:=by kernel_rfl
section
variable (s:ByteArray)
abbrev zn:List PV:=s.data.toList.map eE
theorem K1 {j:Nat} (h:j<s.data.toList.length):(zn s).getD (j*1) .bz = .sc (.int .u8 (bQ s j:Nat)):=by
 rw[Nat.mul_one,de,List.getElem?_map,da h,bQ,de,da h]
 rfl
def jI (c:Nat):Int×Int×Bool:=if c<128 then(c,0,true) else if 192≤c∧c<224 then(c-192,1,true) else if 224≤c∧c<240 then(c-224,2,true) else if 240≤c∧c<248 then(c-240,3,true) else(0,0,false)
theorem Gn (c:Nat) (h:c<256):az ae env 140 [sI .u8 c] [] (.aK [sI .i64 (jI c).1,sI .i64 (jI c).2.1,sB (jI c).2.2]) []:=by
 have w0:re.wrap (c:Int)=c:=aQ (by omega) (by omega)
 have w1:re.wrap ((c:Int)-192)=c-192:=aQ (by omega) (by omega)
 have w2:re.wrap ((c:Int)-224)=c-224:=aQ (by omega) (by omega)
 have w3:re.wrap ((c:Int)-240)=c-240:=aQ (by omega) (by omega)
 refine aa aH (Sg c) ?_
 simp only[KY,aA.ok,w0,w1,w2,w3,decide_eq_true_eq,decide_eq_false_iff_not,iv]
 refine⟨fun q=> ?_,fun q=>⟨fun r=>⟨fun t=> ?_,fun t=>⟨by omega,fun u=> ?_,fun u=>⟨by omega,fun v=> ?_,fun v=> ?_⟩⟩⟩,fun r=>⟨by omega,by omega,?_⟩⟩⟩<;>unfold jI
 · rw[if_pos (by omega)]
 · rw[if_neg (by omega),if_pos (by omega)]
 · rw[if_neg (by omega),if_neg (by omega),if_pos (by omega)]
 · rw[if_neg (by omega),if_neg (by omega),if_neg (by omega),if_pos (by omega)]
 · rw[if_neg (by omega),if_neg (by omega),if_neg (by omega),if_neg (by omega)]
 · rw[if_neg (by omega),if_neg (by omega),if_neg (by omega),if_neg (by omega)]
def goes (j:Nat):Bool:=decide (j<s.data.toList.length)&&(decide (128≤bQ s j)&&decide (bQ s j<192))
def part (j:Nat):Int:=if goes s j=true then(bQ s j:Int)-128 else 0
theorem qT (j:Nat):az ae env 141 [.p (.ps s.data.toList.length 1 (zn s)),sI .i64 j] [] (.aK [sI .i64 (part s j),sB (goes s j)]) []:=by
 refine aa aH (Sh s.data.toList.length (zn s) j) ?_
 by_cases h:j<s.data.toList.length
 · have hb:=lS s j
   have hd:decide ((j:Int)≥(s.data.toList.length:Int))=false:=decide_eq_false (by omega)
   have hin:aP (j:Int) s.data.toList.length=true:=by simp only[aP,di,decide_eq_true_eq];omega
   have w0:re.wrap (bQ s j:Int)=bQ s j:=aQ (by omega) (by omega)
   have w1:re.wrap ((bQ s j:Int)-128)=bQ s j-128:=aQ (by omega) (by omega)
   have hc:=K1 s h
   simp only[DW,aV,aA.ok,afm,hc,hd,hin,isInt,au,w0,w1,ajQ,decide_eq_true_eq,decide_eq_false_iff_not]
   refine⟨fun q=>(by cases q),fun _=>⟨trivial,rfl,fun q=> ?_,fun q=>⟨trivial,rfl,fun r=> ?_,fun r=>⟨trivial,rfl,?_⟩⟩⟩⟩
   · have e:goes s j=false:=by simp only[goes,akr,decide_eq_false_iff_not];omega
     rw[part,e];rfl
   · have e:goes s j=false:=by simp only[goes,akr,decide_eq_false_iff_not];omega
     rw[part,e];rfl
   · have e:goes s j=true:=by simp only[goes,di,decide_eq_true_eq];omega
     rw[part,e];rfl
 · have hd:decide ((j:Int)≥(s.data.toList.length:Int))=true:=decide_eq_true (by omega)
   have e:goes s j=false:=by simp only[goes,akr,decide_eq_false_iff_not];omega
   simp only[DW,aV,aA.ok,hd,part,e]
   exact⟨fun _=>rfl,fun q=>(by cases q)⟩
def jK (n:Int):Bool:=decide (0≤n)&&(decide (n≤1114111)&&(decide (n<55296)||decide (n>57343)))
theorem nu (n:Int):az ae env 142 [sI .i64 n] [] (sB (jK n)) []:=by
 refine aa aH (Si n) ?_
 simp only[KZ,aV,aA.ok,jK,ge_iff_le]
 refine⟨fun q=>⟨fun r=>⟨fun t=> ?_,fun t=> ?_⟩,fun r=> ?_⟩,fun q=> ?_⟩
 · rw[q,r,t];rfl
 · rw[q,r,t];rfl
 · rw[q,r];rfl
 · rw[q];rfl
def oV (n:Int):Nat:=if n<128 then 1 else if n<2048 then 2 else if n<65536 then 3 else 4
theorem Wk {f:FuncId} {args:List AV} {k z:Nat} {l:List PV} (h:az ae env f args [] (.os none k z l) []):az ae env f args [] (.p (.ps k z l)) []:=az.pure h
theorem pP (n:Int) : ∃l,az ae env 143 [sI .i64 n] [] (.p (.ps (oV n) 1 l)) []:=by
 have t:=Sj n
 unfold oV
 by_cases h1:n<128
 · rw[if_pos h1]
   exact⟨_,Wk (aa aH t ⟨fun _=>rfl,fun q=>absurd h1 (by simpa using q)⟩)⟩
 · rw[if_neg h1]
   by_cases h2:n<2048
   · rw[if_pos h2]
     exact⟨_,Wk (aa aH t ⟨fun q=>absurd (by simpa using q) h1,fun _=>⟨fun _=>rfl,fun q=>absurd h2 (by simpa using q)⟩⟩)⟩
   · rw[if_neg h2]
     by_cases h3:n<65536
     · rw[if_pos h3]
       exact⟨_,Wk (aa aH t ⟨fun q=>absurd (by simpa using q) h1,fun _=>⟨fun q=>absurd (by simpa using q) h2,fun _=>⟨fun _=>rfl,fun q=>absurd h3 (by simpa using q)⟩⟩⟩)⟩
     · rw[if_neg h3]
       exact⟨_,Wk (aa aH t ⟨fun q=>absurd (by simpa using q) h1,fun _=>⟨fun q=>absurd (by simpa using q) h2,fun _=>⟨fun q=>absurd (by simpa using q) h3,fun _=>rfl⟩⟩⟩)⟩
def Jg (j:Nat):Int×Int×Bool:=
 let f:=jI (bQ s j)
 if f.2.2=false then(0,0,false)
 else if f.2.1=0 then(f.1,1,jK f.1&&((oV f.1:Int)==1))
 else if goes s (j+1)=false then(0,0,false)
 else if f.2.1=1 then(64*f.1+part s (j+1),2,jK (64*f.1+part s (j+1))&&((oV (64*f.1+part s (j+1)):Int)==2))
 else if goes s (j+2)=false then(0,0,false)
 else if f.2.1=2 then(64*(64*f.1+part s (j+1))+part s (j+2),3,jK (64*(64*f.1+part s (j+1))+part s (j+2))&&((oV (64*(64*f.1+part s (j+1))+part s (j+2)):Int)==3))
 else if goes s (j+3)=false then(0,0,false)
 else(64*(64*(64*f.1+part s (j+1))+part s (j+2))+part s (j+3),4,jK (64*(64*(64*f.1+part s (j+1))+part s (j+2))+part s (j+3))&&((oV (64*(64*(64*f.1+part s (j+1))+part s (j+2))+part s (j+3)):Int)==4))
theorem qV (j:Nat):0≤part s j∧part s j≤63:=by
 unfold part
 split
 · rename_i h
   simp only[goes,di,decide_eq_true_eq] at h
   omega
 · omega
theorem Wl {j:Nat} (hj:j<s.data.toList.length) (hs:s.data.toList.length≤1000000):az ae env 128 [.p (.ps s.data.toList.length 1 (zn s)),sI .i64 j] [] (.aK [sI .i64 (Jg s j).1,sI .i64 (Jg s j).2.1,sB (Jg s j).2.2]) []:=by
 have hb:=lS s j
 have hin:aP (j:Int) s.data.toList.length=true:=by simp only[aP,di,decide_eq_true_eq];omega
 have hc:=K1 s hj
 have hf:=Gn (bQ s j) hb
 have e1:re.wrap ((j:Int)+1)=((j+1:Nat):Int):=by rw[aQ (by omega) (by omega)];rfl
 have e2:re.wrap ((j:Int)+2)=((j+2:Nat):Int):=by rw[aQ (by omega) (by omega)];rfl
 have e3:re.wrap ((j:Int)+3)=((j+3:Nat):Int):=by rw[aQ (by omega) (by omega)];rfl
 have t1:=qT s (j+1)
 have t2:=qT s (j+2)
 have t3:=qT s (j+3)
 have p1:=qV s (j+1)
 have p2:=qV s (j+2)
 have p3:=qV s (j+3)
 have hfr:((jI (bQ s j)).2.2=false∧jI (bQ s j)=(0,0,false))∨(0≤(jI (bQ s j)).1∧(jI (bQ s j)).1≤255∧(jI (bQ s j)).2.2=true∧((jI (bQ s j)).2.1=0∨(jI (bQ s j)).2.1=1∨(jI (bQ s j)).2.1=2∨(jI (bQ s j)).2.1=3)):=by
  unfold jI
  split
  · exact .inr ⟨by simp,by simp;omega,rfl,.inl rfl⟩
  split
  · exact .inr ⟨by simp;omega,by simp;omega,rfl,.inr (.inl rfl)⟩
  split
  · exact .inr ⟨by simp;omega,by simp;omega,rfl,.inr (.inr (.inl rfl))⟩
  split
  · exact .inr ⟨by simp;omega,by simp;omega,rfl,.inr (.inr (.inr rfl))⟩
  · exact .inl ⟨rfl,rfl⟩
 unfold Jg
 generalize hF:jI (bQ s j)=F at hf hfr
 obtain⟨n0,m,ok⟩:=F
 generalize part s (j+1)=x1 at *
 generalize part s (j+2)=x2 at *
 generalize part s (j+3)=x3 at *
 generalize goes s (j+1)=g1 at *
 generalize goes s (j+2)=g2 at *
 generalize goes s (j+3)=g3 at *
 dsimp only at hf hfr ⊢
 rcases hfr with⟨rfl,he⟩ | ⟨h0,aoT,rfl,rfl | rfl | rfl | rfl⟩
 · cases he
   refine aa aH (MW s.data.toList.length (zn s) j 0 0 0 0 true true true true 0 []) ?_
   simp only[Gm,aV,aA.ok,afm,hc,hin,isInt,au,ajQ]
   exact⟨trivial,rfl,hf,rfl⟩
 · obtain⟨l,ho⟩:=pP n0
   refine aa aH (MS s.data.toList.length (zn s) j n0 0 0 0 true true true (jK n0) (oV n0) l) ?_
   simp only[Gg,aV,aA.ok,afm,hc,hin,isInt,au,ajQ]
   refine⟨trivial,rfl,hf,nu n0,fun q=>⟨ho,?_⟩,fun q=> ?_⟩
   · rw[q];rfl
   · rw[q];rfl
 · have w1:re.wrap (re.wrap (64*n0)+x1)=64*n0+x1:=by rw[aQ (n:=64*n0) (by omega) (by omega)];exact aQ (by omega) (by omega)
   obtain⟨l,ho⟩:=pP (64*n0+x1)
   refine aa aH (MT s.data.toList.length (zn s) j n0 x1 0 0 g1 true true (jK (64*n0+x1)) (oV (64*n0+x1)) l) ?_
   simp only[Gi,aV,aA.ok,afm,hc,hin,isInt,au,ajQ,w1,e1]
   refine⟨trivial,rfl,hf,t1,fun q=> ?_,fun q=>⟨nu _,fun r=>⟨ho,?_⟩,fun r=> ?_⟩⟩
   · rw[iv] at q;rw[q];rfl
   · rw[ajo] at q;rw[q,r];rfl
   · rw[ajo] at q;rw[q,r];rfl
 · have w1:re.wrap (re.wrap (64*n0)+x1)=64*n0+x1:=by rw[aQ (n:=64*n0) (by omega) (by omega)];exact aQ (by omega) (by omega)
   have w2:re.wrap (re.wrap (64*(64*n0+x1))+x2)=64*(64*n0+x1)+x2:=by rw[aQ (n:=64*(64*n0+x1)) (by omega) (by omega)];exact aQ (by omega) (by omega)
   obtain⟨l,ho⟩:=pP (64*(64*n0+x1)+x2)
   refine aa aH (MU s.data.toList.length (zn s) j n0 x1 x2 0 g1 g2 true (jK (64*(64*n0+x1)+x2)) (oV (64*(64*n0+x1)+x2)) l) ?_
   simp only[Gj,aV,aA.ok,afm,hc,hin,isInt,au,ajQ,w1,w2,e1,e2]
   refine⟨trivial,rfl,hf,t1,fun q=> ?_,fun q=>⟨t2,fun q2=> ?_,fun q2=>⟨nu _,fun r=>⟨ho,?_⟩,fun r=> ?_⟩⟩⟩
   · rw[iv] at q;rw[q];rfl
   · rw[ajo] at q;rw[iv] at q2;rw[q,q2];rfl
   · rw[ajo] at q q2;rw[q,q2,r];rfl
   · rw[ajo] at q q2;rw[q,q2,r];rfl
 · have w1:re.wrap (re.wrap (64*n0)+x1)=64*n0+x1:=by rw[aQ (n:=64*n0) (by omega) (by omega)];exact aQ (by omega) (by omega)
   have w2:re.wrap (re.wrap (64*(64*n0+x1))+x2)=64*(64*n0+x1)+x2:=by rw[aQ (n:=64*(64*n0+x1)) (by omega) (by omega)];exact aQ (by omega) (by omega)
   have w3:re.wrap (re.wrap (64*(64*(64*n0+x1)+x2))+x3)=64*(64*(64*n0+x1)+x2)+x3:=by rw[aQ (n:=64*(64*(64*n0+x1)+x2)) (by omega) (by omega)];exact aQ (by omega) (by omega)
   obtain⟨l,ho⟩:=pP (64*(64*(64*n0+x1)+x2)+x3)
   refine aa aH (MV s.data.toList.length (zn s) j n0 x1 x2 x3 g1 g2 g3 (jK (64*(64*(64*n0+x1)+x2)+x3)) (oV (64*(64*(64*n0+x1)+x2)+x3)) l) ?_
   simp only[Gk,nr,aV,aA.ok,afm,hc,hin,isInt,au,ajQ,w1,w2,w3,e1,e2,e3]
   refine⟨trivial,rfl,hf,t1,fun q=> ?_,fun q=>⟨t2,fun q2=> ?_,fun q2=>⟨t3,fun q3=> ?_,fun q3=>⟨nu _,fun r=>⟨ho,?_⟩,fun r=> ?_⟩⟩⟩⟩
   · rw[iv] at q;rw[q];rfl
   · rw[ajo] at q;rw[iv] at q2;rw[q,q2];rfl
   · rw[ajo] at q q2;rw[iv] at q3;rw[q,q2,q3];rfl
   · rw[ajo] at q q2 q3;rw[q,q2,q3,r];rfl
   · rw[ajo] at q q2 q3;rw[q,q2,q3,r];rfl
theorem rl1 (v:Int) (h:0≤v∧v<128):(jK v&&((oV v:Int)==1))=true:=by
 have e:oV v=1:=if_pos h.2
 rw[e]
 simp only[jK,di,iu,decide_eq_true_eq,beq_iff_eq]
 omega
theorem Sm (v:Int) (h:0≤v):(jK v&&((oV v:Int)==2))=decide (128≤v∧v<2048)∧(jK v&&((oV v:Int)==3))=decide (2048≤v∧v<65536∧(v<55296∨v>57343))∧(jK v&&((oV v:Int)==4))=decide (65536≤v∧v≤1114111):=by
 have e:(oV v:Int)=if v<128 then 1 else if v<2048 then 2 else if v<65536 then 3 else 4:=by
  unfold oV
  split
  · rfl
  split
  · rfl
  split<;>rfl
 rw[e]
 refine⟨?_,?_,?_⟩<;>rw[ahx]<;>simp only[jK,di,iu,decide_eq_true_eq,beq_iff_eq]<;>repeat' split
 all_goals omega
theorem Wm {j:Nat} (hj:j<s.data.toList.length):((Jg s j).2.2=true∧(Jg s j).2.1=(aj2 s j).2 ∧ ¬((aj2 s j).1=65533∧(aj2 s j).2=1))∨((Jg s j).2.2=false∧(aj2 s j).1=65533∧(aj2 s j).2=1):=by
 have g : ∀k,(s.get! k).toNat=bQ s k:=fun k=>by rw[Ga]
 have hsz:s.size=s.data.toList.length:=Array.length_toList.symm
 have b0:=lS s j
 have b1:=lS s (j+1)
 have b2:=lS s (j+2)
 have b3:=lS s (j+3)
 rw[aj7,g,g,g,g,hsz]
 have e1:goes s (j+1)=decide (1<s.data.toList.length-j∧bQ s (j+1) / 64=2):=by rw[goes,ahx];simp only[di,decide_eq_true_eq];omega
 have e2:goes s (j+2)=decide (2<s.data.toList.length-j∧bQ s (j+2) / 64=2):=by rw[goes,ahx];simp only[di,decide_eq_true_eq];omega
 have e3:goes s (j+3)=decide (3<s.data.toList.length-j∧bQ s (j+3) / 64=2):=by rw[goes,ahx];simp only[di,decide_eq_true_eq];omega
 unfold Jg part
 rw[e1,e2,e3]
 have hn:1≤s.data.toList.length-j:=by omega
 generalize s.data.toList.length-j=n at *
 generalize bQ s j=c0 at *
 generalize bQ s (j+1)=c1 at *
 generalize bQ s (j+2)=c2 at *
 generalize bQ s (j+3)=c3 at *
 clear e1 e2 e3 g hsz hj
 by_cases k0:c0<128
 · have f:jI c0=((c0:Int),0,true):=if_pos k0
   have dd:aj5 n c0 c1 c2 c3=(c0,1):=by unfold aj5;rw[if_pos k0]
   rw[f,dd]
   refine .inl ⟨?_,rfl,by simp only;omega⟩
   exact rl1 _ (by omega)
 by_cases k1:192≤c0∧c0<224
 · have f:jI c0=((c0:Int)-192,1,true):=by unfold jI;rw[if_neg k0,if_pos k1]
   rw[f]
   by_cases g1:1<n∧c1 / 64=2
   · have dd:aj5 n c0 c1 c2 c3=if c0%32*64+c1%64≥128 then(c0%32*64+c1%64,2) else(65533,1):=by unfold aj5;rw[if_neg k0,if_pos ⟨by omega,g1⟩]
     rw[dd]
     have r:=(Sm (64*((c0:Int)-192)+((c1:Int)-128)) (by omega)).1
     simp only[decide_eq_true g1,if_true,ajE,if_false,akw,r,decide_eq_true_eq,decide_eq_false_iff_not]
     split
     · exact .inl ⟨by omega,(by first | rfl | trivial),by simp⟩
     · exact .inr ⟨by omega,(by first | rfl | trivial),(by first | rfl | trivial)⟩
   · have dd:aj5 n c0 c1 c2 c3=(65533,1):=by unfold aj5;rw[if_neg k0,if_neg (fun h=>g1 h.2),if_neg (by omega),if_neg (by omega)]
     rw[dd]
     simp only[decide_eq_false g1,if_true,ajE,if_false,akw]
     exact .inr ⟨(by first | rfl | trivial),(by first | rfl | trivial),(by first | rfl | trivial)⟩
 by_cases k2:224≤c0∧c0<240
 · have f:jI c0=((c0:Int)-224,2,true):=by unfold jI;rw[if_neg k0,if_neg k1,if_pos k2]
   rw[f]
   by_cases g1:1<n∧c1 / 64=2
   · by_cases g2:2<n∧c2 / 64=2
     · have dd:aj5 n c0 c1 c2 c3=if c0%16*4096+c1%64*64+c2%64≥2048∧(c0%16*4096+c1%64*64+c2%64<55296∨(57344≤c0%16*4096+c1%64*64+c2%64∧c0%16*4096+c1%64*64+c2%64≤1114111)) then(c0%16*4096+c1%64*64+c2%64,3) else(65533,1):=by unfold aj5;rw[if_neg k0,if_neg (by omega),if_pos ⟨by omega,g1,g2⟩]
       rw[dd]
       have r:=(Sm (64*(64*((c0:Int)-224)+((c1:Int)-128))+((c2:Int)-128)) (by omega)).2.1
       simp only[decide_eq_true g1,decide_eq_true g2,if_true,ajE,if_false,show(2:Int)≠0 by decide,show(2:Int)≠1 by decide,r,decide_eq_true_eq,decide_eq_false_iff_not]
       split
       · exact .inl ⟨by omega,(by first | rfl | trivial),by simp⟩
       · exact .inr ⟨by omega,(by first | rfl | trivial),(by first | rfl | trivial)⟩
     · have dd:aj5 n c0 c1 c2 c3=(65533,1):=by unfold aj5;rw[if_neg k0,if_neg (by omega),if_neg (fun h=>g2 h.2.2),if_neg (by omega)]
       rw[dd]
       simp only[decide_eq_true g1,decide_eq_false g2,if_true,ajE,if_false,show(2:Int)≠0 by decide,show(2:Int)≠1 by decide]
       exact .inr ⟨(by first | rfl | trivial),(by first | rfl | trivial),(by first | rfl | trivial)⟩
   · have dd:aj5 n c0 c1 c2 c3=(65533,1):=by unfold aj5;rw[if_neg k0,if_neg (by omega),if_neg (fun h=>g1 h.2.1),if_neg (by omega)]
     rw[dd]
     simp only[decide_eq_false g1,if_true,ajE,if_false,show(2:Int)≠0 by decide]
     exact .inr ⟨(by first | rfl | trivial),(by first | rfl | trivial),(by first | rfl | trivial)⟩
 by_cases k3:240≤c0∧c0<248
 · have f:jI c0=((c0:Int)-240,3,true):=by unfold jI;rw[if_neg k0,if_neg k1,if_neg k2,if_pos k3]
   rw[f]
   by_cases g1:1<n∧c1 / 64=2
   · by_cases g2:2<n∧c2 / 64=2
     · by_cases g3:3<n∧c3 / 64=2
       · have dd:aj5 n c0 c1 c2 c3=if c0%8*262144+c1%64*4096+c2%64*64+c3%64≥65536∧(c0%8*262144+c1%64*4096+c2%64*64+c3%64<55296∨(57344≤c0%8*262144+c1%64*4096+c2%64*64+c3%64∧c0%8*262144+c1%64*4096+c2%64*64+c3%64≤1114111)) then(c0%8*262144+c1%64*4096+c2%64*64+c3%64,4) else(65533,1):=by unfold aj5;rw[if_neg k0,if_neg (by omega),if_neg (by omega),if_pos ⟨by omega,g1,g2,g3⟩]
         rw[dd]
         have r:=(Sm (64*(64*(64*((c0:Int)-240)+((c1:Int)-128))+((c2:Int)-128))+((c3:Int)-128)) (by omega)).2.2
         simp only[decide_eq_true g1,decide_eq_true g2,decide_eq_true g3,if_true,ajE,if_false,show(3:Int)≠0 by decide,show(3:Int)≠1 by decide,show(3:Int)≠2 by decide,r,decide_eq_true_eq,decide_eq_false_iff_not]
         split
         · exact .inl ⟨by omega,(by first | rfl | trivial),by simp⟩
         · exact .inr ⟨by omega,(by first | rfl | trivial),(by first | rfl | trivial)⟩
       · have dd:aj5 n c0 c1 c2 c3=(65533,1):=by unfold aj5;rw[if_neg k0,if_neg (by omega),if_neg (by omega),if_neg (fun h=>g3 h.2.2.2)]
         rw[dd]
         simp only[decide_eq_true g1,decide_eq_true g2,decide_eq_false g3,if_true,ajE,if_false,show(3:Int)≠0 by decide,show(3:Int)≠1 by decide,show(3:Int)≠2 by decide]
         exact .inr ⟨(by first | rfl | trivial),(by first | rfl | trivial),(by first | rfl | trivial)⟩
     · have dd:aj5 n c0 c1 c2 c3=(65533,1):=by unfold aj5;rw[if_neg k0,if_neg (by omega),if_neg (by omega),if_neg (fun h=>g2 h.2.2.1)]
       rw[dd]
       simp only[decide_eq_true g1,decide_eq_false g2,if_true,ajE,if_false,show(3:Int)≠0 by decide,show(3:Int)≠1 by decide]
       exact .inr ⟨(by first | rfl | trivial),(by first | rfl | trivial),(by first | rfl | trivial)⟩
   · have dd:aj5 n c0 c1 c2 c3=(65533,1):=by unfold aj5;rw[if_neg k0,if_neg (by omega),if_neg (by omega),if_neg (fun h=>g1 h.2.1)]
     rw[dd]
     simp only[decide_eq_false g1,if_true,ajE,if_false,show(3:Int)≠0 by decide]
     exact .inr ⟨(by first | rfl | trivial),(by first | rfl | trivial),(by first | rfl | trivial)⟩
 · have f:jI c0=(0,0,false):=by unfold jI;rw[if_neg k0,if_neg k1,if_neg k2,if_neg k3]
   have dd:aj5 n c0 c1 c2 c3=(65533,1):=by unfold aj5;rw[if_neg k0,if_neg (by omega),if_neg (by omega),if_neg (by omega)]
   rw[f,dd]
   simp only[if_true]
   exact .inr ⟨trivial,trivial,trivial⟩
def MX (a:List PV) (i:Nat):cm:=
 if a=[] then ah ae env 121 0 [.p (.ps s.data.toList.length 1 (zn s)),.mp 0 0,.os none 0 0 [],sI .i64 i] [.pc [sP 0,sP 0]] 0 33
 else ah ae env 121 0 [.p (.ps s.data.toList.length 1 (zn s)),.mp 0 0,.os (some 1) a.length 1 a,sI .i64 i] [.pc [sP 0,sP 0],.tok] 0 33
abbrev Wn (b:Int):AV:= .agg [sI .i64 (if b≥0 then 4 else 0),sI .i64 (if b≥0 then b else 0)]
theorem MY (hs:s.data.toList.length≤1000000) : ∀(k i:Nat) (a:List PV),s.size+1≤i+k→a.length≤i → ∃v m',aU ae env (MX s a i) (.ret (.aK [v,Wn (yE s k i)]) m'):=by
 have hsz:s.size=s.data.toList.length:=Array.length_toList.symm
 have hL:=DF
 intro k
 induction k with
 |zero=>
  intro i a hi ha
  have hd:decide ((i:Int)<(s.data.toList.length:Int))=false:=decide_eq_false (by omega)
  unfold MX
  by_cases e:a=[]
  · rw[if_pos e]
    refine⟨_,_,af aH (pN s.data.toList.length (zn s) i 0 [] 0 0 true) (o:= .ret (.aK [.os none 0 0 [],.agg [sI .i64 0,sI .i64 0]]) []) ?_⟩
    simp only[oS,aV,aA.ok,hd]
    exact⟨fun q=>(by cases q),fun _=>trivial⟩
  · rw[if_neg e]
    refine⟨_,_,af aH (pO s.data.toList.length (zn s) i a.length a 0 0 true) (o:= .ret (.aK [.os (some 0) a.length 1 a,.agg [sI .i64 0,sI .i64 0]]) [.tok]) ?_⟩
    simp only[oU,aV,aA.ok,hd]
    exact⟨fun q=>(by cases q),fun _=>trivial⟩
 |succ k ih=>
  intro i a hi ha
  by_cases hlt:i<s.size
  · have hj:i<s.data.toList.length:=by omega
    have hd:decide ((i:Int)<(s.data.toList.length:Int))=true:=decide_eq_true (by omega)
    have Yn:=Wl s hj hs
    have hp:=KO s i
    simp only[yE,if_pos hlt]
    rcases Wm s hj with⟨q1,q2,q3⟩ | ⟨q1,q2,q3⟩
    · rw[if_neg q3]
      rw[q1,q2] at Yn
      have hz4:(aj2 s i).2≤4:=by
       rw[aj7];unfold aj5
       repeat' split
       all_goals simp
      have w:re.wrap ((i:Int)+((aj2 s i).2:Nat))=((i+(aj2 s i).2:Nat):Int):=by rw[aQ (by omega) (by omega)];omega
      obtain⟨v,m',hn⟩:=ih (i+(aj2 s i).2) (a++[sP (Jg s i).1]) (by omega) (by rw[dC];simp;omega)
      refine⟨v,m',?_⟩
      unfold MX at hn ⊢
      rw[if_neg (by simp)] at hn
      by_cases e:a=[]
      · subst e
        rw[if_pos rfl]
        refine af aH (pN s.data.toList.length (zn s) i 0 [] (Jg s i).1 ((aj2 s i).2:Nat) true) ?_
        simp only[oS,aV,aA.ok,hd,w]
        exact⟨fun _=>⟨Yn,fun q=>(by cases q),fun _=>hn⟩,fun q=>(by cases q)⟩
      · rw[if_neg e]
        rw[dC] at hn
        refine af aH (pO s.data.toList.length (zn s) i a.length a (Jg s i).1 ((aj2 s i).2:Nat) true) ?_
        simp only[oU,aV,aA.ok,hd,w]
        exact⟨fun _=>⟨Yn,fun q=>(by cases q),fun _=>⟨by simp only[ajQ,di,Nat.ble_eq];omega,hn⟩⟩,fun q=>(by cases q)⟩
    · rw[if_pos ⟨q2,q3⟩]
      rw[q1] at Yn
      have f0:Wn (i:Int) = .agg [sI .i64 4,sI .i64 i]:=by
       have h0:(i:Int)≥0:=by omega
       simp only[Wn,if_pos h0]
      rw[f0]
      unfold MX
      by_cases e:a=[]
      · subst e
        rw[if_pos rfl]
        refine⟨_,_,af aH (pN s.data.toList.length (zn s) i 0 [] (Jg s i).1 (Jg s i).2.1 false) (o:= .ret (.aK [.os none 0 0 [],.agg [sI .i64 4,sI .i64 i]]) []) ?_⟩
        simp only[oS,aV,aA.ok,hd]
        exact⟨fun _=>⟨Yn,fun _=>trivial,fun q=>(by cases q)⟩,fun q=>(by cases q)⟩
      · rw[if_neg e]
        refine⟨_,_,af aH (pO s.data.toList.length (zn s) i a.length a (Jg s i).1 (Jg s i).2.1 false) (o:= .ret (.aK [.os none 0 0 [],.agg [sI .i64 4,sI .i64 i]]) []) ?_⟩
        simp only[oU,aV,aA.ok,hd]
        exact⟨fun _=>⟨Yn,fun _=>trivial,fun q=>(by cases q)⟩,fun q=>(by cases q)⟩
  · have hd:decide ((i:Int)<(s.data.toList.length:Int))=false:=decide_eq_false (by omega)
    simp only[yE,if_neg hlt]
    unfold MX
    by_cases e:a=[]
    · rw[if_pos e]
      refine⟨_,_,af aH (pN s.data.toList.length (zn s) i 0 [] 0 0 true) (o:= .ret (.aK [.os none 0 0 [],.agg [sI .i64 0,sI .i64 0]]) []) ?_⟩
      simp only[oS,aV,aA.ok,hd]
      exact⟨fun q=>(by cases q),fun _=>trivial⟩
    · rw[if_neg e]
      refine⟨_,_,af aH (pO s.data.toList.length (zn s) i a.length a 0 0 true) (o:= .ret (.aK [.os (some 0) a.length 1 a,.agg [sI .i64 0,sI .i64 0]]) [.tok]) ?_⟩
      simp only[oU,aV,aA.ok,hd]
      exact⟨fun q=>(by cases q),fun _=>trivial⟩
theorem Sn {f:FuncId} {args:List AV} {v:AV} {m':Mem} {a b:Int} (h:az ae env f args [] (.aK [v,.agg [sI .i64 a,sI .i64 b]]) m'):az ae env f args [] (.aK [.bC,.agg [sI .i64 a,sI .i64 b]]) []:=
 h.weak fun g wd cv q=>by
   cases q with
   |aK _ cs hl hc=>
    have hv:dj g wd [v,.agg [sI .i64 a,sI .i64 b]] cs.toList:=bP.cY hl hc
    refine VA.mP.2 ?_
    generalize cs.toList=vs at hv
    match vs,hv with
    |[u,t],hv=>
     obtain⟨_,h2,_⟩:=hv
     refine⟨.bC _,?_,trivial⟩
     cases h2 with
     |agg _ ds hn hd=>
      have hw:dj g wd [sI .i64 a,sI .i64 b] ds.toList:=bP.cY hn hd
      refine VA.wD.2 ?_
      generalize ds.toList=us at hw
      match us,hw with
      |[x,y],hw=>
       obtain⟨w1,w2,_⟩:=hw
       cases w1 with
       |p _ _ w1=>cases w1 with
        |sc=>cases w2 with
         |p _ _ w2=>cases w2 with
          |sc=>exact⟨.p _ _ (.sc _),.p _ _ (.sc _),trivial⟩
theorem Jh : ∀(k i:Nat),yE s k i≥0∨yE s k i = -1
 |0,_=> .inr rfl
 |k+1,i=>by
  simp only[yE]
  split
  · split
    · exact .inl (by omega)
    · exact Jh k _
  · exact .inr rfl
theorem Co (hs:s.data.toList.length≤1000000):az ae env 102 [.p (.ps s.data.toList.length 1 (zn s))] [] (sI .i64 (jZ s)) []:=by
 obtain⟨v,m',h⟩:=MY s hs (s.size+1) 0 [] (by omega) (Nat.le_refl _)
 have hr:az ae env 121 [.p (.ps s.data.toList.length 1 (zn s))] [] (.aK [v,Wn (jZ s)]) m':=by
  refine aa aH (Sk s.data.toList.length (zn s)) ?_
  unfold MX at h
  rw[if_pos rfl] at h
  exact h
 refine aa aH (Sl s.data.toList.length (zn s) 0 [] (if jZ s≥0 then 4 else 0) (if jZ s≥0 then jZ s else 0)) ?_
 simp only[K0,aA.ok]
 refine⟨Sn hr,fun q=> ?_,fun q=> ?_⟩
 · rcases Jh s (s.size+1) 0 with g | g
   · have g:jZ s≥0:=g
     rw[if_pos g]
   · have g:jZ s = -1:=g
     rw[g] at q
     exact absurd q (by decide)
 · rcases Jh s (s.size+1) 0 with g | g
   · have g:jZ s≥0:=g
     rw[if_pos g] at q
     exact absurd q (by decide)
   · have g:jZ s = -1:=g
     rw[g]
end
end Go.Proofs.YtncncijedmfpjaaGreatDoor.N
end
