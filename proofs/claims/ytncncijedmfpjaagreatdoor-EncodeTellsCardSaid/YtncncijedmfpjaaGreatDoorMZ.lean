import Derived.Test.YtncncijedmfpjaaGreatDoorMY
import Derived.Test.YtncncijedmfpjaaGreatDoorMX
import Derived.Test.YtncncijedmfpjaaGreatDoorMH
import Derived.Test.YtncncijedmfpjaaGreatDoorMF
import Derived.Test.YtncncijedmfpjaaGreatDoorMR
open Nat renaming beq→ba,le_refl→c9,le_trans→bx,ble_eq→ajp,mul_one→ajS
open Go.Proofs.Tryz renaming prog→ae
open List renaming flatMap→ajO,getElem?_eq_some_iff→dT,map→aeM,mem_of_getElem?→mv,length_pos_of_mem→amC,length_map→my
open Go.IntKind renaming i64→re,u32→aeG,u8→ajw,i32→ajx
open Bool renaming and_eq_true→di,and_true→ajQ,false_eq_true→o0,true_eq_false→ajE,true_and→ajX,not_true→wc,and_self→akN
open Int renaming toNat_natCast→afm
open True renaming intro→akX
noncomputable section
section
set_option linter.unusedSimpArgs false
set_option linter.unusedVariables false
namespace Go.Proofs.YtncncijedmfpjaaGreatDoor.N
open Go Go.Am
def swQ (M:Mo) (i:Nat) (k:Nat) (f:FuncId) (_:List AV) (m:Mem):Option (AV×Mem):=cond (ba f 46||ba f 47||ba f 21||ba f 22||ba f 8) (some (sB true,m)) none
def S4 (l:List (Nat×Nat×AV)) (f d:Nat):Option AV:=match l with
 |[]=>none
 |(f',d',v)::r=>cond (ba f f'&&ba d d') (some v) (S4 r f d)
def qW:Env:={env with told:=S4 [(9,156,sB false),(22,66,sB false)]}
def aed:bA:=aM aE aC [(47,1)] [(47,0,0)] []
def aja:Sc:= .fin
def Lo (k:Nat) (cs:List PV):aA:=
 (.test ((↑k:Int) != (↑k:Int))
 (.out (.ret (sB false) []))
 (.at (ah ae env 47 1 [.p (.ps k 1 cs),.p (.ps k 1 cs),sI .i64 0] ([]) 0 26)))
theorem S5 (k:Nat) (cs:List PV):aI ae env aed 1000000 47 ([AV.p (PV.ps k 1 cs),AV.p (PV.ps k 1 cs)]) ([]) aja=Lo k cs:=by kernel_rfl
def aee:bA:=aM aE aC [] [] [(8,2,1),(8,2,3)]
def ajb:Sc:= .fin
def Lp (k:Nat) (cs:List PV):aA:=
 (.must (cs.all isByte&&true)
 (.must (cs.all isByte&&true)
 (.out (.ret (.p (.sc (.bool ((ByteArray.mk (aeM Am.byteOf cs).toArray).data.toList==(ByteArray.mk (aeM Am.byteOf cs).toArray).data.toList)))) []))))
theorem S6 (k:Nat) (cs:List PV):aI ae env aee 1000000 8 ([AV.p (PV.ps k 1 cs),AV.p (PV.ps k 1 cs)]) ([]) ajb=Lp k cs:=by kernel_rfl
def aef:bA:=aM aE aC [(46,1)] [(46,0,0)] []
def ajc:Sc:= .fin
def Lq (l:List Ins):aA:=
 (.test ((↑l.length:Int) != (↑l.length:Int))
 (.out (.ret (sB false) []))
 (.at (ah ae env 46 1 [.p (.ps l.length 8 (aj l)),.p (.ps l.length 8 (aj l)),sI .i64 0] ([]) 0 84)))
theorem S7 (l:List Ins):aI ae env aef 1000000 46 ([aL l,aL l]) ([]) ajc=Lq l:=by kernel_rfl
def aeg:bA:=aM aE aC [] [(21,2,6)] []
def ajd (lo:Int) (l:List Ins):Sc:=(.fork (.ans 46 (sB true) ([]) .fin) .fin)
def Lr (lo:Int) (l:List Ins):aA:=
 (.test (lo==lo)
 (.call ⟨46,[.p (.ps l.length 8 (aj l)),.p (.ps l.length 8 (aj l))],[],sB true,[]⟩
 gj)
 (.out (.ret (sB false) [])))
theorem S8 (lo:Int) (l:List Ins):aI ae env aeg 1000000 21 ([AV.agg [sI re lo,aL l],AV.agg [sI re lo,aL l]]) ([]) (ajd lo l)=Lr lo l:=by kernel_rfl
def aeh:bA:=aM aE aC [(9,1)] [(9,2,8),(9,2,17),(9,2,26),(9,2,35),(9,2,44),(9,2,53),(9,2,62),(9,2,69),(9,2,76),(9,2,85),(9,0,0)] []
def aje:Sc:=(.fork (.lit (.lit (.lit (.lit (.lit (.lit (.lit (.lit (.lit (.lit .fin)))))))))) (.fork (.lit (.lit (.lit (.lit (.lit (.lit (.lit (.lit (.lit .fin))))))))) (.fork (.lit (.lit (.lit (.lit (.lit (.lit (.lit (.lit .fin)))))))) (.fork (.lit (.lit (.lit (.lit (.lit (.lit (.lit .fin))))))) (.fork (.lit (.lit (.lit (.lit (.lit (.lit .fin)))))) (.fork (.lit (.lit (.lit (.lit (.lit .fin))))) (.fork (.lit (.lit (.lit (.lit .fin)))) (.fork (.lit (.lit (.lit .fin))) (.fork (.lit (.lit .fin)) (.fork (.lit .fin) .fin))))))))))
def eF:aA:=
 (.out (.ret (sB false) []))
def Ls (M:Mo):aA:=
 (.test ((↑M.tys.length:Int) != (↑M.tys.length:Int))
 (eF)
 (.test ((↑M.aX.length:Int) != (↑M.aX.length:Int))
 (eF)
 (.test ((↑M.fns.length:Int) != (↑M.fns.length:Int))
 (eF)
 (.test ((↑M.b8.length:Int) != (↑M.b8.length:Int))
 (eF)
 (.test ((↑M.b9.length:Int) != (↑M.b9.length:Int))
 (eF)
 (.test ((↑M.gls.length:Int) != (↑M.gls.length:Int))
 (eF)
 (.test ((↑M.exs.length:Int) != (↑M.exs.length:Int))
 (eF)
 (.test (!M.st==M.st)
 (eF)
 (.test (M.sn != M.sn)
 (eF)
 (.test ((↑M.els.length:Int) != (↑M.els.length:Int))
 (eF)
 (.test ((↑M.bp.length:Int) != (↑M.bp.length:Int))
 (eF)
 (.at (ah ae env 9 1 [.mp 0 0,.mp 1 0,sI .i64 0] ([.pc M.aJ,.pc M.aJ]) 0 176)))))))))))))
theorem S9 (M:Mo):aI ae env aeh 1000000 9 ([AV.agg (aeM AV.p M.aJ),AV.agg (aeM AV.p M.aJ)]) ([]) aje=Ls M:=by kernel_rfl
def aei:bA:=aM aE aC [(22,0)] [] []
def ajf:Sc:= .fin
def XF (M:Mo):aA:=
 (.at (ah ae env 22 0 [.mp 0 0,.mp 1 0,sI .i64 0] ([.pc M.aJ,.pc M.aJ]) 0 175))
theorem Ta (M:Mo):aI ae env aei 1000000 22 ([AV.agg (aeM AV.p M.aJ),AV.agg (aeM AV.p M.aJ)]) ([]) ajf=XF M:=by kernel_rfl
def XG:bA:=aM aE aC [(47,1)] [(47,0,2),(47,0,3)] [(47,0,3)]
def aej:Sc:= .fin
def zI (k:Nat) (i:Nat) (cs:List PV):aA:=
 (.test (decide ((↑i:Int)<(↑k:Int)))
 (.must (aP (↑i:Int) k&&true&&(isInt aeG (aq cs (aB i*1))&&(aP (↑i:Int) k&&true&&(isInt aeG (aq cs (aB i*1))&&true)))&&true)
 (.test (au (aq cs (aB i*1)) != au (aq cs (aB i*1)))
 (.out (.ret (sB false) []))
 (.at (ah ae env 47 1 [.p (.ps k 1 cs),.p (.ps k 1 cs),sI .i64 (re.wrap ((↑i:Int)+1))] ([]) 0 26))))
 gj)
theorem Cv (k:Nat) (i:Nat) (cs:List PV):grow ae env XG 1000000 true (ah ae env 47 1 ([AV.p (PV.ps k 1 cs),AV.p (PV.ps k 1 cs),sI re (↑i:Int)]) ([]) 0 26) aej atEnd=zI k i cs:=by kernel_rfl
def XH:bA:=aM aE aC [(46,1)] [(46,0,2),(46,8,6),(46,8,13),(46,8,20),(46,8,27),(46,8,34)] [(46,0,3)]
def aek (l:List Ins) (i:Nat):Sc:=(.fork (.fork (.lit (.lit (.lit (.lit .fin)))) (.fork (.lit (.lit (.lit .fin))) (.fork (.lit (.lit .fin)) (.fork (.lit .fin) (.fork .fin (.ans 47 (sB true) ([]) (.ans 46 (sB true) ([]) (.ans 46 (sB true) ([]) .fin)))))))) .fin)
def zJ (l:List Ins) (i:Nat):aA:=
 (.test (decide ((↑i:Int)<(↑l.length:Int)))
 (.must (aP (↑i:Int) l.length&&true&&true&&(isInt re (aq (aj l) (aB i*8))&&(isInt re (aq (aj l) (aB i*8+1))&&(isInt aeG (aq (aj l) (aB i*8+1+1))&&(isInt aeG (aq (aj l) (aB i*8+1+1+1))&&(isInt ajx (aq (aj l) (aB i*8+1+1+1+1))&&(aO (aq (aj l) (aB i*8+1+1+1+1+1))&&(aO (aq (aj l) (aB i*8+1+1+1+1+1+1))&&(aO (aq (aj l) (aB i*8+1+1+1+1+1+1+1))&&true)))))))&&true&&(aP (↑i:Int) l.length&&true&&true&&(isInt re (aq (aj l) (aB i*8))&&(isInt re (aq (aj l) (aB i*8+1))&&(isInt aeG (aq (aj l) (aB i*8+1+1))&&(isInt aeG (aq (aj l) (aB i*8+1+1+1))&&(isInt ajx (aq (aj l) (aB i*8+1+1+1+1))&&(aO (aq (aj l) (aB i*8+1+1+1+1+1))&&(aO (aq (aj l) (aB i*8+1+1+1+1+1+1))&&(aO (aq (aj l) (aB i*8+1+1+1+1+1+1+1))&&true)))))))&&true&&true)))&&true)
 (.test (au (aq (aj l) (aB i*8)) != au (aq (aj l) (aB i*8)))
 (.out (.ret (sB false) []))
 (.test (au (aq (aj l) (aB i*8+1)) != au (aq (aj l) (aB i*8+1)))
 (.out (.ret (sB false) []))
 (.test (au (aq (aj l) (aB i*8+1+1)) != au (aq (aj l) (aB i*8+1+1)))
 (.out (.ret (sB false) []))
 (.test (au (aq (aj l) (aB i*8+1+1+1)) != au (aq (aj l) (aB i*8+1+1+1)))
 (.out (.ret (sB false) []))
 (.test (au (aq (aj l) (aB i*8+1+1+1+1)) != au (aq (aj l) (aB i*8+1+1+1+1)))
 (.out (.ret (sB false) []))
 (.call ⟨47,[.p (.ps (an (aq (aj l) (aB i*8+1+1+1+1+1))) (aD (aq (aj l) (aB i*8+1+1+1+1+1))) (ak (aq (aj l) (aB i*8+1+1+1+1+1)))),.p (.ps (an (aq (aj l) (aB i*8+1+1+1+1+1))) (aD (aq (aj l) (aB i*8+1+1+1+1+1))) (ak (aq (aj l) (aB i*8+1+1+1+1+1))))],[],sB true,[]⟩
 (.call ⟨46,[.p (.ps (an (aq (aj l) (aB i*8+1+1+1+1+1+1))) (aD (aq (aj l) (aB i*8+1+1+1+1+1+1))) (ak (aq (aj l) (aB i*8+1+1+1+1+1+1)))),.p (.ps (an (aq (aj l) (aB i*8+1+1+1+1+1+1))) (aD (aq (aj l) (aB i*8+1+1+1+1+1+1))) (ak (aq (aj l) (aB i*8+1+1+1+1+1+1))))],[],sB true,[]⟩
 (.call ⟨46,[.p (.ps (an (aq (aj l) (aB i*8+1+1+1+1+1+1+1))) (aD (aq (aj l) (aB i*8+1+1+1+1+1+1+1))) (ak (aq (aj l) (aB i*8+1+1+1+1+1+1+1)))),.p (.ps (an (aq (aj l) (aB i*8+1+1+1+1+1+1+1))) (aD (aq (aj l) (aB i*8+1+1+1+1+1+1+1))) (ak (aq (aj l) (aB i*8+1+1+1+1+1+1+1))))],[],sB true,[]⟩
 (.at (ah ae env 46 1 [.p (.ps l.length 8 (aj l)),.p (.ps l.length 8 (aj l)),sI .i64 (re.wrap ((↑i:Int)+1))] ([]) 0 84)))))))))))
 gj)
theorem Cw (l:List Ins) (i:Nat):grow ae env XH 1000000 true (ah ae env 46 1 ([aL l,aL l,sI re (↑i:Int)]) ([]) 0 84) (aek l i) atEnd=zJ l i:=by kernel_rfl
def XI:bA:=aM aE aC [(9,1),(9,4)] [(9,0,2),(9,0,3)] [(9,0,3)]
def ael (M:Mo) (i:Nat):Sc:= .fin
def zK (M:Mo) (i:Nat):aA:=
 (.test (decide ((↑i:Int)<(↑M.tys.length:Int)))
 (.must (aP (↑i:Int) M.tys.length&&true&&(isInt re (aq (ajO bK M.tys) (aB i*2))&&(isInt re (aq (ajO bK M.tys) (aB i*2+1))&&true)&&(aP (↑i:Int) M.tys.length&&true&&(isInt re (aq (ajO bK M.tys) (aB i*2))&&(isInt re (aq (ajO bK M.tys) (aB i*2+1))&&true)&&true)))&&true)
 (.test (!(fun r=>au (aq (ajO bK M.tys) (aB i*2))==au (aq (ajO bK M.tys) (aB i*2))&&r) ((fun r=>au (aq (ajO bK M.tys) (aB i*2+1))==au (aq (ajO bK M.tys) (aB i*2+1))&&r) true))
 (.out (.ret (sB false) []))
 (.at (ah ae env 9 1 [.mp 0 0,.mp 1 0,sI .i64 (re.wrap ((↑i:Int)+1))] ([.pc M.aJ,.pc M.aJ]) 0 176))))
 (.at (ah ae env 9 4 [.mp 0 0,.mp 1 0,sI .i64 0] ([.pc M.aJ,.pc M.aJ]) 0 176)))
theorem Cx (M:Mo) (i:Nat):grow ae env XI 1000000 true (ah ae env 9 1 ([AV.mp 0 0,AV.mp 1 0,sI re (↑i:Int)]) ([bq.pc M.aJ,bq.pc M.aJ]) 0 176) (ael M i) atEnd=zK M i:=by kernel_rfl
def XJ:bA:=aM aE aC [(22,0),(22,3)] [(22,0,1),(22,0,2)] [(22,0,2)]
def aem (M:Mo) (i:Nat):Sc:= .fin
def zL (M:Mo) (i:Nat):aA:=
 (.test (decide ((↑i:Int)<(↑M.b8.length:Int)))
 (.must (aP (↑i:Int) M.b8.length&&true&&(isInt aeG (aq (ajO aF M.b8) (aB i*3))&&(isInt aeG (aq (ajO aF M.b8) (aB i*3+1))&&(isBool (aq (ajO aF M.b8) (aB i*3+1+1))&&true))&&(aP (↑i:Int) M.b8.length&&true&&(isInt aeG (aq (ajO aF M.b8) (aB i*3))&&(isInt aeG (aq (ajO aF M.b8) (aB i*3+1))&&(isBool (aq (ajO aF M.b8) (aB i*3+1+1))&&true))&&true)))&&true)
 (.test (!(fun r=>au (aq (ajO aF M.b8) (aB i*3))==au (aq (ajO aF M.b8) (aB i*3))&&r) ((fun r=>au (aq (ajO aF M.b8) (aB i*3+1))==au (aq (ajO aF M.b8) (aB i*3+1))&&r) ((fun r=>bf (aq (ajO aF M.b8) (aB i*3+1+1))==bf (aq (ajO aF M.b8) (aB i*3+1+1))&&r) true)))
 (.out (.ret (sB false) []))
 (.at (ah ae env 22 0 [.mp 0 0,.mp 1 0,sI .i64 (re.wrap ((↑i:Int)+1))] ([.pc M.aJ,.pc M.aJ]) 0 175))))
 (.at (ah ae env 22 3 [.mp 0 0,.mp 1 0,sI .i64 0] ([.pc M.aJ,.pc M.aJ]) 0 175)))
theorem Cy (M:Mo) (i:Nat):grow ae env XJ 1000000 true (ah ae env 22 0 ([AV.mp 0 0,AV.mp 1 0,sI re (↑i:Int)]) ([bq.pc M.aJ,bq.pc M.aJ]) 0 175) (aem M i) atEnd=zL M i:=by kernel_rfl
def XK:bA:=aM aE aC [(22,3),(22,6)] [(22,0,4),(22,0,5)] [(22,0,5)]
def aen (M:Mo) (i:Nat):Sc:= .fin
def zM (M:Mo) (i:Nat):aA:=
 (.test (decide ((↑i:Int)<(↑M.b9.length:Int)))
 (.must (aP (↑i:Int) M.b9.length&&true&&(isInt aeG (aq (ajO aF M.b9) (aB i*3))&&(isInt aeG (aq (ajO aF M.b9) (aB i*3+1))&&(isBool (aq (ajO aF M.b9) (aB i*3+1+1))&&true))&&(aP (↑i:Int) M.b9.length&&true&&(isInt aeG (aq (ajO aF M.b9) (aB i*3))&&(isInt aeG (aq (ajO aF M.b9) (aB i*3+1))&&(isBool (aq (ajO aF M.b9) (aB i*3+1+1))&&true))&&true)))&&true)
 (.test (!(fun r=>au (aq (ajO aF M.b9) (aB i*3))==au (aq (ajO aF M.b9) (aB i*3))&&r) ((fun r=>au (aq (ajO aF M.b9) (aB i*3+1))==au (aq (ajO aF M.b9) (aB i*3+1))&&r) ((fun r=>bf (aq (ajO aF M.b9) (aB i*3+1+1))==bf (aq (ajO aF M.b9) (aB i*3+1+1))&&r) true)))
 (.out (.ret (sB false) []))
 (.at (ah ae env 22 3 [.mp 0 0,.mp 1 0,sI .i64 (re.wrap ((↑i:Int)+1))] ([.pc M.aJ,.pc M.aJ]) 0 175))))
 (.at (ah ae env 22 6 [.mp 0 0,.mp 1 0,sI .i64 0] ([.pc M.aJ,.pc M.aJ]) 0 175)))
theorem Cz (M:Mo) (i:Nat):grow ae env XK 1000000 true (ah ae env 22 3 ([AV.mp 0 0,AV.mp 1 0,sI re (↑i:Int)]) ([bq.pc M.aJ,bq.pc M.aJ]) 0 175) (aen M i) atEnd=zM M i:=by kernel_rfl
def XL:bA:=aM aE aC [(22,12),(22,15)] [(22,0,13)] [(22,0,14)]
def aeo (M:Mo) (i:Nat):Sc:=(.fork (.z7 22 24 (swQ M i 0) .fin) .fin)
def zN (M:Mo) (i:Nat):aA:=
 (.test (decide ((↑i:Int)<(↑M.els.length:Int)))
 (.call ⟨46,[.p (.ps (an (aq (ajO aN M.els) (aB i*2+0))) (aD (aq (ajO aN M.els) (aB i*2+0))) (ak (aq (ajO aN M.els) (aB i*2+0)))),.p (.ps (an (aq (ajO aN M.els) (aB i*2+0))) (aD (aq (ajO aN M.els) (aB i*2+0))) (ak (aq (ajO aN M.els) (aB i*2+0))))],[],sB true,[]⟩
 (.call ⟨47,[.p (.ps (an (aq (ajO aN M.els) (aB i*2+1))) (aD (aq (ajO aN M.els) (aB i*2+1))) (ak (aq (ajO aN M.els) (aB i*2+1)))),.p (.ps (an (aq (ajO aN M.els) (aB i*2+1))) (aD (aq (ajO aN M.els) (aB i*2+1))) (ak (aq (ajO aN M.els) (aB i*2+1))))],[],sB true,[]⟩
 (.must (aP (↑i:Int) M.els.length&&true&&true&&(aO (aq (ajO aN M.els) (aB i*2+0))&&true&&(aP (↑i:Int) M.els.length&&true&&true&&(aO (aq (ajO aN M.els) (aB i*2+0))&&true&&(aP (↑i:Int) M.els.length&&true&&true&&(aO (aq (ajO aN M.els) (aB i*2+1))&&true&&(aP (↑i:Int) M.els.length&&true&&true&&(aO (aq (ajO aN M.els) (aB i*2+1))&&true&&true)))))))&&true)
 (.at (ah ae env 22 12 [.mp 0 0,.mp 1 0,sI .i64 (re.wrap ((↑i:Int)+1))] ([.pc M.aJ,.pc M.aJ]) 0 175)))))
 (.at (ah ae env 22 15 [.mp 0 0,.mp 1 0,sI .i64 0] ([.pc M.aJ,.pc M.aJ]) 0 175)))
theorem CA (M:Mo) (i:Nat):grow ae env XL 1000000 true (ah ae env 22 12 ([AV.mp 0 0,AV.mp 1 0,sI re (↑i:Int)]) ([bq.pc M.aJ,bq.pc M.aJ]) 0 175) (aeo M i) atEnd=zN M i:=by kernel_rfl
def XM:bA:=aM aE aC [(22,15)] [(22,0,16)] [(22,0,17)]
def aep (M:Mo) (i:Nat):Sc:=(.fork (.z7 22 29 (swQ M i 0) .fin) .fin)
def zO (M:Mo) (i:Nat):aA:=
 (.test (decide ((↑i:Int)<(↑M.bp.length:Int)))
 (.call ⟨46,[.p (.ps (an (aq (ajO aZ M.bp) (aB i*2+0))) (aD (aq (ajO aZ M.bp) (aB i*2+0))) (ak (aq (ajO aZ M.bp) (aB i*2+0)))),.p (.ps (an (aq (ajO aZ M.bp) (aB i*2+0))) (aD (aq (ajO aZ M.bp) (aB i*2+0))) (ak (aq (ajO aZ M.bp) (aB i*2+0))))],[],sB true,[]⟩
 (.call ⟨8,[.p (.ps (an (aq (ajO aZ M.bp) (aB i*2+1))) (aD (aq (ajO aZ M.bp) (aB i*2+1))) (ak (aq (ajO aZ M.bp) (aB i*2+1)))),.p (.ps (an (aq (ajO aZ M.bp) (aB i*2+1))) (aD (aq (ajO aZ M.bp) (aB i*2+1))) (ak (aq (ajO aZ M.bp) (aB i*2+1))))],[],sB true,[]⟩
 (.must (aP (↑i:Int) M.bp.length&&true&&true&&(aO (aq (ajO aZ M.bp) (aB i*2+0))&&true&&(aP (↑i:Int) M.bp.length&&true&&true&&(aO (aq (ajO aZ M.bp) (aB i*2+0))&&true&&(aP (↑i:Int) M.bp.length&&true&&true&&(aO (aq (ajO aZ M.bp) (aB i*2+1))&&true&&(aP (↑i:Int) M.bp.length&&true&&true&&(aO (aq (ajO aZ M.bp) (aB i*2+1))&&true&&true)))))))&&true)
 (.at (ah ae env 22 15 [.mp 0 0,.mp 1 0,sI .i64 (re.wrap ((↑i:Int)+1))] ([.pc M.aJ,.pc M.aJ]) 0 175)))))
 gj)
theorem CB (M:Mo) (i:Nat):grow ae env XM 1000000 true (ah ae env 22 15 ([AV.mp 0 0,AV.mp 1 0,sI re (↑i:Int)]) ([bq.pc M.aJ,bq.pc M.aJ]) 0 175) (aep M i) atEnd=zO M i:=by kernel_rfl
def XN:bA:=aM aE aC [(9,4),(9,7)] [(9,0,5),(9,0,6)] [(9,0,6)]
def aer (M:Mo) (i:Nat):Sc:= .fin
def zP (M:Mo) (i:Nat):aA:=
 (.test (decide ((↑i:Int)<(↑M.aX.length:Int)))
 (.must (aP (↑i:Int) M.aX.length&&true&&(isStr (aq (ajO bh M.aX) (aB i*3))&&(isStr (aq (ajO bh M.aX) (aB i*3+1))&&(isInt re (aq (ajO bh M.aX) (aB i*3+1+1))&&true))&&(aP (↑i:Int) M.aX.length&&true&&(isStr (aq (ajO bh M.aX) (aB i*3))&&(isStr (aq (ajO bh M.aX) (aB i*3+1))&&(isInt re (aq (ajO bh M.aX) (aB i*3+1+1))&&true))&&true)))&&true)
 (.test (!(fun r=>(bg (aq (ajO bh M.aX) (aB i*3))).data.toList==(bg (aq (ajO bh M.aX) (aB i*3))).data.toList&&r) ((fun r=>(bg (aq (ajO bh M.aX) (aB i*3+1))).data.toList==(bg (aq (ajO bh M.aX) (aB i*3+1))).data.toList&&r) ((fun r=>au (aq (ajO bh M.aX) (aB i*3+1+1))==au (aq (ajO bh M.aX) (aB i*3+1+1))&&r) true)))
 (.out (.ret (sB false) []))
 (.at (ah ae env 9 4 [.mp 0 0,.mp 1 0,sI .i64 (re.wrap ((↑i:Int)+1))] ([.pc M.aJ,.pc M.aJ]) 0 176))))
 (.at (ah ae env 9 7 [.mp 0 0,.mp 1 0,sI .i64 0] ([.pc M.aJ,.pc M.aJ]) 0 176)))
theorem CC (M:Mo) (i:Nat):grow ae env XN 1000000 true (ah ae env 9 4 ([AV.mp 0 0,AV.mp 1 0,sI re (↑i:Int)]) ([bq.pc M.aJ,bq.pc M.aJ]) 0 176) (aer M i) atEnd=zP M i:=by kernel_rfl
def XO:bA:=aM aE aC [(9,7)] [(9,0,8)] [(9,0,9)]
def aes (M:Mo) (i:Nat):Sc:=(.fork (.z7 9 16 (swQ M i 0) .fin) (.ans 22 (sB true) ([]) .fin))
def zQ (M:Mo) (i:Nat):aA:=
 (.test (decide ((↑i:Int)<(↑M.fns.length:Int)))
 (.call ⟨21,[.agg [sI .i64 (au (aq (ajO aG M.fns) (aB i*3+1))),.p (.ps (an (aq (ajO aG M.fns) (aB i*3+1+1))) (aD (aq (ajO aG M.fns) (aB i*3+1+1))) (ak (aq (ajO aG M.fns) (aB i*3+1+1))))],.agg [sI .i64 (au (aq (ajO aG M.fns) (aB i*3+1))),.p (.ps (an (aq (ajO aG M.fns) (aB i*3+1+1))) (aD (aq (ajO aG M.fns) (aB i*3+1+1))) (ak (aq (ajO aG M.fns) (aB i*3+1+1))))]],[],sB true,[]⟩
 (.must (aP (↑i:Int) M.fns.length&&true&&true&&(isInt re (aq (ajO aG M.fns) (aB i*3+0))&&true&&(aP (↑i:Int) M.fns.length&&true&&true&&(isInt re (aq (ajO aG M.fns) (aB i*3+0))&&true&&(jB (.p (.sc (.bool (au (aq (ajO aG M.fns) (aB i*3+0)) != au (aq (ajO aG M.fns) (aB i*3+0)))))) (sB false)&&(aP (↑i:Int) M.fns.length&&true&&true&&(isInt re (aq (ajO aG M.fns) (aB i*3+1))&&(aO (aq (ajO aG M.fns) (aB i*3+1+1))&&true)&&true&&(aP (↑i:Int) M.fns.length&&true&&true&&(isInt re (aq (ajO aG M.fns) (aB i*3+1))&&(aO (aq (ajO aG M.fns) (aB i*3+1+1))&&true)&&true&&true))))))))&&true)
 (.at (ah ae qW 9 7 [.mp 0 0,.mp 1 0,sI .i64 (re.wrap ((↑i:Int)+1))] ([.pc M.aJ,.pc M.aJ]) 0 176))))
 (.call ⟨22,[.agg (aeM AV.p M.aJ),.agg (aeM AV.p M.aJ)],[],sB true,[]⟩
 gj))
theorem CD (M:Mo) (i:Nat):grow ae qW XO 1000000 true (ah ae qW 9 7 ([AV.mp 0 0,AV.mp 1 0,sI re (↑i:Int)]) ([bq.pc M.aJ,bq.pc M.aJ]) 0 176) (aes M i) atEnd=zQ M i:=by kernel_rfl
def XP:bA:=aM aE aC [(22,6),(22,9)] [(22,0,7)] [(22,0,8)]
def aet (M:Mo) (i:Nat):Sc:=(.fork (.z7 22 14 (swQ M i 0) .fin) .fin)
def zR (M:Mo) (i:Nat):aA:=
 (.test (decide ((↑i:Int)<(↑M.gls.length:Int)))
 (.call ⟨46,[.p (.ps (an (aq (ajO bn M.gls) (aB i*2+1))) (aD (aq (ajO bn M.gls) (aB i*2+1))) (ak (aq (ajO bn M.gls) (aB i*2+1)))),.p (.ps (an (aq (ajO bn M.gls) (aB i*2+1))) (aD (aq (ajO bn M.gls) (aB i*2+1))) (ak (aq (ajO bn M.gls) (aB i*2+1))))],[],sB true,[]⟩
 (.must (aP (↑i:Int) M.gls.length&&true&&true&&(isBool (aq (ajO bn M.gls) (aB i*2+0))&&true&&(aP (↑i:Int) M.gls.length&&true&&true&&(isBool (aq (ajO bn M.gls) (aB i*2+0))&&true&&(jB (.p (.sc (.bool !bf (aq (ajO bn M.gls) (aB i*2+0))==bf (aq (ajO bn M.gls) (aB i*2+0))))) (sB false)&&(aP (↑i:Int) M.gls.length&&true&&true&&(aO (aq (ajO bn M.gls) (aB i*2+1))&&true&&(aP (↑i:Int) M.gls.length&&true&&true&&(aO (aq (ajO bn M.gls) (aB i*2+1))&&true&&true))))))))&&true)
 (.at (ah ae qW 22 6 [.mp 0 0,.mp 1 0,sI .i64 (re.wrap ((↑i:Int)+1))] ([.pc M.aJ,.pc M.aJ]) 0 175))))
 (.at (ah ae qW 22 9 [.mp 0 0,.mp 1 0,sI .i64 0] ([.pc M.aJ,.pc M.aJ]) 0 175)))
theorem CE (M:Mo) (i:Nat):grow ae qW XP 1000000 true (ah ae qW 22 6 ([AV.mp 0 0,AV.mp 1 0,sI re (↑i:Int)]) ([bq.pc M.aJ,bq.pc M.aJ]) 0 175) (aet M i) atEnd=zR M i:=by kernel_rfl
def XQ:bA:=aM aE aC [(22,9),(22,12)] [(22,0,10),(22,0,11)] [(22,0,11)]
def aeu (M:Mo) (i:Nat):Sc:= .fin
def zS (M:Mo) (i:Nat):aA:=
 (.test (decide ((↑i:Int)<(↑M.exs.length:Int)))
 (.must (aP (↑i:Int) M.exs.length&&true&&(isStr (aq (ajO bu M.exs) (aB i*3))&&(isInt re (aq (ajO bu M.exs) (aB i*3+1))&&(isInt aeG (aq (ajO bu M.exs) (aB i*3+1+1))&&true))&&(aP (↑i:Int) M.exs.length&&true&&(isStr (aq (ajO bu M.exs) (aB i*3))&&(isInt re (aq (ajO bu M.exs) (aB i*3+1))&&(isInt aeG (aq (ajO bu M.exs) (aB i*3+1+1))&&true))&&true)))&&true)
 (.test (!(fun r=>(bg (aq (ajO bu M.exs) (aB i*3))).data.toList==(bg (aq (ajO bu M.exs) (aB i*3))).data.toList&&r) ((fun r=>au (aq (ajO bu M.exs) (aB i*3+1))==au (aq (ajO bu M.exs) (aB i*3+1))&&r) ((fun r=>au (aq (ajO bu M.exs) (aB i*3+1+1))==au (aq (ajO bu M.exs) (aB i*3+1+1))&&r) true)))
 (.out (.ret (sB false) []))
 (.at (ah ae env 22 9 [.mp 0 0,.mp 1 0,sI .i64 (re.wrap ((↑i:Int)+1))] ([.pc M.aJ,.pc M.aJ]) 0 175))))
 (.at (ah ae env 22 12 [.mp 0 0,.mp 1 0,sI .i64 0] ([.pc M.aJ,.pc M.aJ]) 0 175)))
theorem CF (M:Mo) (i:Nat):grow ae env XQ 1000000 true (ah ae env 22 9 ([AV.mp 0 0,AV.mp 1 0,sI re (↑i:Int)]) ([bq.pc M.aJ,bq.pc M.aJ]) 0 175) (aeu M i) atEnd=zS M i:=by kernel_rfl
theorem kR {α:Type} {l:List α} {D:Nat→cm} {o:Out} (step : ∀(i:Nat) (x:α),l[i]? = some x→aU ae env (D (i+1)) o→aU ae env (D i) o)
  (fin:aU ae env (D l.length) o):aU ae env (D 0) o:=by
 have h : ∀r i:Nat,i+r=l.length→aU ae env (D i) o:=by
  intro r
  induction r with
  |zero=>
   intro i hi
   obtain rfl:i=l.length:=by omega
   exact fin
  |succ r ih=>
   intro i hi
   have hl:i<l.length:=by omega
   exact step i l[i] (List.getElem?_eq_getElem hl) (ih (i+1) (by omega))
 exact h l.length 0 (by omega)
theorem _root_.Go.Am.dI.env {P:Program} {E E':Env} (he:E.ec=E'.ec) {g:Gh} {c:cm} {fr:Frame} {w:World}:dI P E g c fr w→dI P E' g c fr w:=by
 have key : ∀{st:St} {a:Act},cU E g st a w→cU E' g st a w:=fun h=>⟨h.tm,h.nt,h.rel,h.fix,fun i cs hi=>h.ec i cs (by rw[he];exact hi)⟩
 unfold dI
 split
 · exact id
 · exact id
 · rintro ⟨b,a,t,cv,h1,h2,h3,h4,h5,h6⟩
   exact⟨b,a,t,cv,h1,h2,h3,h4,key h5,h6⟩
 · rintro ⟨b,a,t,h1,h2,h3,h4,h5,h6,h7⟩
   exact⟨b,a,t,h1,h2,h3,h4,h5,h6,key h7⟩
 · rintro ⟨b,a,h1,h2,h3,h4,h5,h6⟩
   exact⟨b,a,h1,h2,h3,h4,key h5,h6⟩
theorem _root_.Go.Am.aU.env {P:Program} {E E':Env} (he:E.ec=E'.ec) {c:cm} {o:Out} (h:aU P E c o):aU P E' c o:=
 fun g fr w cs hr=>h g fr w cs (dI.env he.symm hr)
theorem zT {c:cm} {o:Out} (h:aU ae env c o):aU ae qW c o:=Go.Am.aU.env (E:=env) (E':=qW) rfl h
theorem sV {c:cm} {o:Out} (h:aU ae qW c o):aU ae env c o:=Go.Am.aU.env (E:=qW) (E':=env) rfl h
theorem az.toW {f:FuncId} {args:List AV} {m m':Mem} {v:AV} (h:az ae env f args m v m'):az ae qW f args m v m':=h.env fun _ _ q=>q
def hY (f t nt:Nat) (M:Mo) (i:Nat):cm:=ah ae env f t [.mp 0 0,.mp 1 0,sI .i64 i] [.pc M.aJ,.pc M.aJ] 0 nt
theorem zU (l:List Int) (hl:l.length≤1000000):az ae env 47 [.p (.ps l.length 1 (bN .u32 l)),.p (.ps l.length 1 (bN .u32 l))] [] (sB true) []:=by
 refine aa aH (S5 l.length (bN .u32 l)) ?_
 simp only[Lo,aA.ok,bne_self_eq_false]
 refine⟨fun q=>(by cases q),fun _=> ?_⟩
 refine kR (l:=l) (D:=fun i=>ah ae env 47 1 [.p (.ps l.length 1 (bN .u32 l)),.p (.ps l.length 1 (bN .u32 l)),sI .i64 i] [] 0 26) (fun i x hx h=> ?_) ?_
 · have hi:i<l.length:=(dT.1 hx).1
   have c0:(bN .u32 l).getD (i*1) .bz = .sc (.int .u32 (l.getD i 0)):=by rw[ajS];exact pH .u32 l i hi
   have w:re.wrap ((i:Int)+1)=((i+1:Nat):Int):=by rw[aQ (by omega) (by omega)];rfl
   have hd:decide ((i:Int)<(l.length:Int))=true:=decide_eq_true (by omega)
   have hin:aP (i:Int) l.length=true:=by simp only[aP,di,decide_eq_true_eq];omega
   refine af aH (Cv l.length i (bN .u32 l)) ?_
   simp only[zI,aV,aA.ok,isInt,au,afm,c0,hd,hin,w,bne_self_eq_false,ajQ]
   exact⟨fun _=>⟨(by first | rfl | trivial),(fun q=>(by cases q)),fun _=>h⟩,fun q=>(by cases q)⟩
 · have hd:decide ((l.length:Int)<(l.length:Int))=false:=decide_eq_false (by omega)
   refine af aH (Cv l.length l.length (bN .u32 l)) ?_
   simp only[zI,aV,aA.ok,hd]
   exact⟨fun q=>(by cases q),fun _=>trivial⟩
theorem HD : ∀l:List Int,(bN .u8 l).all isByte=true
 |[]=>rfl
 |x::r=>by
  have h:=HD r
  simp only[bN,List.map_cons,List.all_cons,isByte,ajX] at h ⊢
  exact h
theorem zV (l:List Int):az ae env 8 [.p (.ps l.length 1 (bN .u8 l)),.p (.ps l.length 1 (bN .u8 l))] [] (sB true) []:=by
 refine aa aH (S6 l.length (bN .u8 l)) ?_
 simp only[Lp,aA.ok,HD,beq_self_eq_true,ajQ]
 exact⟨trivial,trivial,trivial⟩
theorem iY : ∀(N:Nat) (l:List Ins),cz l≤N→cz l≤1000000→az ae env 46 [aL l,aL l] [] (sB true) []
 |N,l,hN,hc=>by
  have IH : ∀y∈l,az ae env 46 [aL y.l,aL y.l] [] (sB true) []∧az ae env 46 [aL y.e,aL y.e] [] (sB true) []:=by
   intro y hy
   have hcy:=fS hy
   obtain⟨op,rs,a,b,nn,tags,ll,le⟩:=y
   simp only[jr] at hcy
   match N,hN with
   |0,hN=>omega
   |N+1,hN=>exact⟨iY N ll (by omega) (by omega),iY N le (by omega) (by omega)⟩
  have TJ:=jt l
  refine aa aH (S7 l) ?_
  simp only[Lq,aA.ok,bne_self_eq_false]
  refine⟨fun q=>(by cases q),fun _=> ?_⟩
  refine kR (l:=l) (D:=fun i=>ah ae env 46 1 [aL l,aL l,sI .i64 i] [] 0 84) (fun i x hx h=> ?_) ?_
  · have hi:i<l.length:=(dT.1 hx).1
    have hmem:=mv hx
    have pJ:=IH x hmem
    have hcx:=fS hmem
    obtain⟨op,rs,a,b,nn,tags,ll,le⟩:=x
    obtain⟨c0,c1,c2,c3,c4,c5,c6,c7⟩:=gE hx
    simp only[jr] at hcx
    have w:re.wrap ((i:Int)+1)=((i+1:Nat):Int):=by rw[aQ (by omega) (by omega)];rfl
    have hd:decide ((i:Int)<(l.length:Int))=true:=decide_eq_true (by omega)
    have hin:aP (i:Int) l.length=true:=by simp only[aP,di,decide_eq_true_eq];omega
    refine af aH (Cw l i) ?_
    simp only[zJ,aV,aA.ok,Nat.add_assoc,Nat.reduceAdd,c0,c1,c2,c3,c4,c5,c6,c7,isInt,aO,au,an,aD,ak,afm,hd,hin,w,bne_self_eq_false,ajQ,ajX]
    exact⟨fun _=>⟨(by first | rfl | trivial),(fun q=>(by cases q)),fun _=>⟨(fun q=>(by cases q)),fun _=>⟨(fun q=>(by cases q)),fun _=>⟨(fun q=>(by cases q)),fun _=>⟨(fun q=>(by cases q)),fun _=>⟨zU tags (by omega),pJ.1,pJ.2,h⟩⟩⟩⟩⟩⟩,fun q=>(by cases q)⟩
  · have hd:decide ((l.length:Int)<(l.length:Int))=false:=decide_eq_false (by omega)
    refine af aH (Cw l l.length) ?_
    simp only[zJ,aV,aA.ok,hd]
    exact⟨fun q=>(by cases q),fun _=>trivial⟩
theorem Jz (lo:Int) (l:List Ins) (hc:cz l≤1000000):az ae env 21 [.agg [sI .i64 lo,aL l],.agg [sI .i64 lo,aL l]] [] (sB true) []:=by
 refine aa aH (S8 lo l) ?_
 simp only[Lr,aV,aA.ok,beq_self_eq_true]
 exact⟨fun _=>⟨iY _ l (c9 _) hc,trivial⟩,fun q=>(by cases q)⟩
theorem NM (M:Mo) (hl:M.tys.length≤1000000) (o:Out) (i:Nat) (x:Ty) (hx:M.tys[i]? = some x) (h:aU ae env (hY 9 1 176 M (i+1)) o):aU ae env (hY 9 1 176 M i) o:=by
 have hi:i<M.tys.length:=(dT.1 hx).1
 have hmem:=mv hx
 have c:=aW (z:=2) (enc:=bK) (fun _=>rfl) hx
 have ew:(M.tys.flatMap bK).getD (i*2) .bz = .sc (.int .i64 x.p):=c 0 (by decide)
 have eD:(M.tys.flatMap bK).getD (i*2+0) .bz = .sc (.int .i64 x.p):=c 0 (by decide)
 have gq:(M.tys.flatMap bK).getD (i*2+1) .bz = .sc (.int .i64 x.r):=c 1 (by decide)
 have w:re.wrap ((i:Int)+1)=((i+1:Nat):Int):=by rw[aQ (by omega) (by omega)];rfl
 have hd:decide ((i:Int)<(M.tys.length:Int))=true:=decide_eq_true (by omega)
 have hin:aP (i:Int) M.tys.length=true:=by simp only[aP,di,decide_eq_true_eq];omega
 unfold hY at *
 refine af aH (Cx M i) ?_
 simp only[zK,aV,aA.ok,isStr,isInt,aO,isBool,bg,au,bf,an,aD,ak,afm,ajQ,ajX,beq_self_eq_true,bne_self_eq_false,wc,akN,o0,ajE,ew,eD,gq,hd,hin,w]
 exact⟨fun _=>⟨(by first | rfl | trivial | (simp[jB,pW,Lz];done)),(fun q=>(by cases q)),fun _=>h⟩,fun q=>(by cases q)⟩
theorem Tb (M:Mo) (o:Out) (h:aU ae env (hY 9 4 176 M 0) o):aU ae env (hY 9 1 176 M M.tys.length) o:=by
 have hd:decide ((M.tys.length:Int)<(M.tys.length:Int))=false:=decide_eq_false (by omega)
 unfold hY at *
 refine af aH (Cx M M.tys.length) ?_
 simp only[zK,aV,aA.ok,hd]
 exact⟨fun q=>(by cases q),fun _=>h⟩
theorem NN (M:Mo) (hl:M.aX.length≤1000000) (o:Out) (i:Nat) (x:Im) (hx:M.aX[i]? = some x) (h:aU ae env (hY 9 4 176 M (i+1)) o):aU ae env (hY 9 4 176 M i) o:=by
 have hi:i<M.aX.length:=(dT.1 hx).1
 have hmem:=mv hx
 have c:=aW (z:=3) (enc:=bh) (fun _=>rfl) hx
 have ew:(M.aX.flatMap bh).getD (i*3) .bz = .sc (.string x.mo):=c 0 (by decide)
 have eD:(M.aX.flatMap bh).getD (i*3+0) .bz = .sc (.string x.mo):=c 0 (by decide)
 have gq:(M.aX.flatMap bh).getD (i*3+1) .bz = .sc (.string x.nm):=c 1 (by decide)
 have nk:(M.aX.flatMap bh).getD (i*3+1+1) .bz = .sc (.int .i64 x.ty):=c 2 (by decide)
 have nq:(M.aX.flatMap bh).getD (i*3+2) .bz = .sc (.int .i64 x.ty):=c 2 (by decide)
 have w:re.wrap ((i:Int)+1)=((i+1:Nat):Int):=by rw[aQ (by omega) (by omega)];rfl
 have hd:decide ((i:Int)<(M.aX.length:Int))=true:=decide_eq_true (by omega)
 have hin:aP (i:Int) M.aX.length=true:=by simp only[aP,di,decide_eq_true_eq];omega
 unfold hY at *
 refine af aH (CC M i) ?_
 simp only[zP,aV,aA.ok,isStr,isInt,aO,isBool,bg,au,bf,an,aD,ak,afm,ajQ,ajX,beq_self_eq_true,bne_self_eq_false,wc,akN,o0,ajE,ew,eD,gq,nk,nq,hd,hin,w]
 exact⟨fun _=>⟨(by first | rfl | trivial | (simp[jB,pW,Lz];done)),(fun q=>(by cases q)),fun _=>h⟩,fun q=>(by cases q)⟩
theorem Tc (M:Mo) (o:Out) (h:aU ae env (hY 9 7 176 M 0) o):aU ae env (hY 9 4 176 M M.aX.length) o:=by
 have hd:decide ((M.aX.length:Int)<(M.aX.length:Int))=false:=decide_eq_false (by omega)
 unfold hY at *
 refine af aH (CC M M.aX.length) ?_
 simp only[zP,aV,aA.ok,hd]
 exact⟨fun q=>(by cases q),fun _=>h⟩
theorem qX (vs:List AV) (m:Mem):ah ae qW 9 7 vs m 0 176=ah ae env 9 7 vs m 0 176:=by kernel_rfl
theorem NO (M:Mo) (hl:M.fns.length≤1000000) (hc : ∀x∈M.fns,cz x.l≤1000000) (o:Out) (i:Nat) (x:Fu) (hx:M.fns[i]? = some x) (h:aU ae env (hY 9 7 176 M (i+1)) o):aU ae env (hY 9 7 176 M i) o:=by
 have hi:i<M.fns.length:=(dT.1 hx).1
 have hmem:=mv hx
 have c:=aW (z:=3) (enc:=aG) (fun _=>rfl) hx
 have ew:(M.fns.flatMap aG).getD (i*3) .bz = .sc (.int .i64 x.ty):=c 0 (by decide)
 have eD:(M.fns.flatMap aG).getD (i*3+0) .bz = .sc (.int .i64 x.ty):=c 0 (by decide)
 have gq:(M.fns.flatMap aG).getD (i*3+1) .bz = .sc (.int .i64 x.lo):=c 1 (by decide)
 have nk:(M.fns.flatMap aG).getD (i*3+1+1) .bz=pL x.l:=c 2 (by decide)
 have nq:(M.fns.flatMap aG).getD (i*3+2) .bz=pL x.l:=c 2 (by decide)
 have w:re.wrap ((i:Int)+1)=((i+1:Nat):Int):=by rw[aQ (by omega) (by omega)];rfl
 have hd:decide ((i:Int)<(M.fns.length:Int))=true:=decide_eq_true (by omega)
 have hin:aP (i:Int) M.fns.length=true:=by simp only[aP,di,decide_eq_true_eq];omega
 unfold hY at *
 rw[←qX]
 refine sV ?_
 refine af aH (CD M i) ?_
 simp only[zQ,aV,aA.ok,isStr,isInt,aO,isBool,bg,au,bf,an,aD,ak,afm,ajQ,ajX,beq_self_eq_true,bne_self_eq_false,wc,akN,o0,ajE,ew,eD,gq,nk,nq,hd,hin,w]
 exact⟨fun _=>⟨az.toW (Jz x.lo x.l (hc x hmem)),(by first | rfl | trivial | (simp[jB,pW,Lz];done)),(by rw[qX];exact zT h)⟩,fun q=>(by cases q)⟩
theorem Td (M:Mo) (o:Out) (h:az ae env 22 [.agg (M.aJ.map .p),.agg (M.aJ.map .p)] [] (sB true) []∧Out.ret (sB true) []=o):aU ae env (hY 9 7 176 M M.fns.length) o:=by
 have hd:decide ((M.fns.length:Int)<(M.fns.length:Int))=false:=decide_eq_false (by omega)
 unfold hY at *
 rw[←qX]
 refine sV ?_
 refine af aH (CD M M.fns.length) ?_
 simp only[zQ,aV,aA.ok,hd]
 exact⟨fun q=>(by cases q),fun _=>⟨az.toW h.1,h.2⟩⟩
theorem NP (M:Mo) (hl:M.b8.length≤1000000) (o:Out) (i:Nat) (x:Li) (hx:M.b8[i]? = some x) (h:aU ae env (hY 22 0 175 M (i+1)) o):aU ae env (hY 22 0 175 M i) o:=by
 have hi:i<M.b8.length:=(dT.1 hx).1
 have hmem:=mv hx
 have c:=aW (z:=3) (enc:=aF) (fun _=>rfl) hx
 have ew:(M.b8.flatMap aF).getD (i*3) .bz = .sc (.int .u32 x.mn):=c 0 (by decide)
 have eD:(M.b8.flatMap aF).getD (i*3+0) .bz = .sc (.int .u32 x.mn):=c 0 (by decide)
 have gq:(M.b8.flatMap aF).getD (i*3+1) .bz = .sc (.int .u32 x.mx):=c 1 (by decide)
 have nk:(M.b8.flatMap aF).getD (i*3+1+1) .bz = .sc (.bool x.cap):=c 2 (by decide)
 have nq:(M.b8.flatMap aF).getD (i*3+2) .bz = .sc (.bool x.cap):=c 2 (by decide)
 have w:re.wrap ((i:Int)+1)=((i+1:Nat):Int):=by rw[aQ (by omega) (by omega)];rfl
 have hd:decide ((i:Int)<(M.b8.length:Int))=true:=decide_eq_true (by omega)
 have hin:aP (i:Int) M.b8.length=true:=by simp only[aP,di,decide_eq_true_eq];omega
 unfold hY at *
 refine af aH (Cy M i) ?_
 simp only[zL,aV,aA.ok,isStr,isInt,aO,isBool,bg,au,bf,an,aD,ak,afm,ajQ,ajX,beq_self_eq_true,bne_self_eq_false,wc,akN,o0,ajE,ew,eD,gq,nk,nq,hd,hin,w]
 exact⟨fun _=>⟨(by first | rfl | trivial | (simp[jB,pW,Lz];done)),(fun q=>(by cases q)),fun _=>h⟩,fun q=>(by cases q)⟩
theorem Te (M:Mo) (o:Out) (h:aU ae env (hY 22 3 175 M 0) o):aU ae env (hY 22 0 175 M M.b8.length) o:=by
 have hd:decide ((M.b8.length:Int)<(M.b8.length:Int))=false:=decide_eq_false (by omega)
 unfold hY at *
 refine af aH (Cy M M.b8.length) ?_
 simp only[zL,aV,aA.ok,hd]
 exact⟨fun q=>(by cases q),fun _=>h⟩
theorem NQ (M:Mo) (hl:M.b9.length≤1000000) (o:Out) (i:Nat) (x:Li) (hx:M.b9[i]? = some x) (h:aU ae env (hY 22 3 175 M (i+1)) o):aU ae env (hY 22 3 175 M i) o:=by
 have hi:i<M.b9.length:=(dT.1 hx).1
 have hmem:=mv hx
 have c:=aW (z:=3) (enc:=aF) (fun _=>rfl) hx
 have ew:(M.b9.flatMap aF).getD (i*3) .bz = .sc (.int .u32 x.mn):=c 0 (by decide)
 have eD:(M.b9.flatMap aF).getD (i*3+0) .bz = .sc (.int .u32 x.mn):=c 0 (by decide)
 have gq:(M.b9.flatMap aF).getD (i*3+1) .bz = .sc (.int .u32 x.mx):=c 1 (by decide)
 have nk:(M.b9.flatMap aF).getD (i*3+1+1) .bz = .sc (.bool x.cap):=c 2 (by decide)
 have nq:(M.b9.flatMap aF).getD (i*3+2) .bz = .sc (.bool x.cap):=c 2 (by decide)
 have w:re.wrap ((i:Int)+1)=((i+1:Nat):Int):=by rw[aQ (by omega) (by omega)];rfl
 have hd:decide ((i:Int)<(M.b9.length:Int))=true:=decide_eq_true (by omega)
 have hin:aP (i:Int) M.b9.length=true:=by simp only[aP,di,decide_eq_true_eq];omega
 unfold hY at *
 refine af aH (Cz M i) ?_
 simp only[zM,aV,aA.ok,isStr,isInt,aO,isBool,bg,au,bf,an,aD,ak,afm,ajQ,ajX,beq_self_eq_true,bne_self_eq_false,wc,akN,o0,ajE,ew,eD,gq,nk,nq,hd,hin,w]
 exact⟨fun _=>⟨(by first | rfl | trivial | (simp[jB,pW,Lz];done)),(fun q=>(by cases q)),fun _=>h⟩,fun q=>(by cases q)⟩
theorem Tf (M:Mo) (o:Out) (h:aU ae env (hY 22 6 175 M 0) o):aU ae env (hY 22 3 175 M M.b9.length) o:=by
 have hd:decide ((M.b9.length:Int)<(M.b9.length:Int))=false:=decide_eq_false (by omega)
 unfold hY at *
 refine af aH (Cz M M.b9.length) ?_
 simp only[zM,aV,aA.ok,hd]
 exact⟨fun q=>(by cases q),fun _=>h⟩
theorem qY (vs:List AV) (m:Mem):ah ae qW 22 6 vs m 0 175=ah ae env 22 6 vs m 0 175:=by kernel_rfl
theorem HE (vs:List AV) (m:Mem):ah ae qW 22 9 vs m 0 175=ah ae env 22 9 vs m 0 175:=by kernel_rfl
theorem NR (M:Mo) (hl:M.gls.length≤1000000) (hc : ∀x∈M.gls,cz x.l≤1000000) (o:Out) (i:Nat) (x:Gl) (hx:M.gls[i]? = some x) (h:aU ae env (hY 22 6 175 M (i+1)) o):aU ae env (hY 22 6 175 M i) o:=by
 have hi:i<M.gls.length:=(dT.1 hx).1
 have hmem:=mv hx
 have c:=aW (z:=2) (enc:=bn) (fun _=>rfl) hx
 have ew:(M.gls.flatMap bn).getD (i*2) .bz = .sc (.bool x.mu):=c 0 (by decide)
 have eD:(M.gls.flatMap bn).getD (i*2+0) .bz = .sc (.bool x.mu):=c 0 (by decide)
 have gq:(M.gls.flatMap bn).getD (i*2+1) .bz=pL x.l:=c 1 (by decide)
 have w:re.wrap ((i:Int)+1)=((i+1:Nat):Int):=by rw[aQ (by omega) (by omega)];rfl
 have hd:decide ((i:Int)<(M.gls.length:Int))=true:=decide_eq_true (by omega)
 have hin:aP (i:Int) M.gls.length=true:=by simp only[aP,di,decide_eq_true_eq];omega
 unfold hY at *
 rw[←qY]
 refine sV ?_
 refine af aH (CE M i) ?_
 simp only[zR,aV,aA.ok,isStr,isInt,aO,isBool,bg,au,bf,an,aD,ak,afm,ajQ,ajX,beq_self_eq_true,bne_self_eq_false,wc,akN,o0,ajE,ew,eD,gq,hd,hin,w]
 exact⟨fun _=>⟨az.toW (iY _ x.l (c9 _) (hc x hmem)),(by first | rfl | trivial | (simp[jB,pW,Lz];done)),(by rw[qY];exact zT h)⟩,fun q=>(by cases q)⟩
theorem Tg (M:Mo) (o:Out) (h:aU ae env (hY 22 9 175 M 0) o):aU ae env (hY 22 6 175 M M.gls.length) o:=by
 have hd:decide ((M.gls.length:Int)<(M.gls.length:Int))=false:=decide_eq_false (by omega)
 unfold hY at *
 rw[←qY]
 refine sV ?_
 refine af aH (CE M M.gls.length) ?_
 simp only[zR,aV,aA.ok,hd]
 exact⟨fun q=>(by cases q),fun _=>(by rw[HE];exact zT h)⟩
theorem NS (M:Mo) (hl:M.exs.length≤1000000) (o:Out) (i:Nat) (x:Ex) (hx:M.exs[i]? = some x) (h:aU ae env (hY 22 9 175 M (i+1)) o):aU ae env (hY 22 9 175 M i) o:=by
 have hi:i<M.exs.length:=(dT.1 hx).1
 have hmem:=mv hx
 have c:=aW (z:=3) (enc:=bu) (fun _=>rfl) hx
 have ew:(M.exs.flatMap bu).getD (i*3) .bz = .sc (.string x.nm):=c 0 (by decide)
 have eD:(M.exs.flatMap bu).getD (i*3+0) .bz = .sc (.string x.nm):=c 0 (by decide)
 have gq:(M.exs.flatMap bu).getD (i*3+1) .bz = .sc (.int .i64 x.kind):=c 1 (by decide)
 have nk:(M.exs.flatMap bu).getD (i*3+1+1) .bz = .sc (.int .u32 x.ix):=c 2 (by decide)
 have nq:(M.exs.flatMap bu).getD (i*3+2) .bz = .sc (.int .u32 x.ix):=c 2 (by decide)
 have w:re.wrap ((i:Int)+1)=((i+1:Nat):Int):=by rw[aQ (by omega) (by omega)];rfl
 have hd:decide ((i:Int)<(M.exs.length:Int))=true:=decide_eq_true (by omega)
 have hin:aP (i:Int) M.exs.length=true:=by simp only[aP,di,decide_eq_true_eq];omega
 unfold hY at *
 refine af aH (CF M i) ?_
 simp only[zS,aV,aA.ok,isStr,isInt,aO,isBool,bg,au,bf,an,aD,ak,afm,ajQ,ajX,beq_self_eq_true,bne_self_eq_false,wc,akN,o0,ajE,ew,eD,gq,nk,nq,hd,hin,w]
 exact⟨fun _=>⟨(by first | rfl | trivial | (simp[jB,pW,Lz];done)),(fun q=>(by cases q)),fun _=>h⟩,fun q=>(by cases q)⟩
theorem Th (M:Mo) (o:Out) (h:aU ae env (hY 22 12 175 M 0) o):aU ae env (hY 22 9 175 M M.exs.length) o:=by
 have hd:decide ((M.exs.length:Int)<(M.exs.length:Int))=false:=decide_eq_false (by omega)
 unfold hY at *
 refine af aH (CF M M.exs.length) ?_
 simp only[zS,aV,aA.ok,hd]
 exact⟨fun q=>(by cases q),fun _=>h⟩
theorem NT (M:Mo) (hl:M.els.length≤1000000) (hc : ∀x∈M.els,cz x.l≤1000000∧x.fs.length≤1000000) (o:Out) (i:Nat) (x:El) (hx:M.els[i]? = some x) (h:aU ae env (hY 22 12 175 M (i+1)) o):aU ae env (hY 22 12 175 M i) o:=by
 have hi:i<M.els.length:=(dT.1 hx).1
 have hmem:=mv hx
 have c:=aW (z:=2) (enc:=aN) (fun _=>rfl) hx
 have ew:(M.els.flatMap aN).getD (i*2) .bz=pL x.l:=c 0 (by decide)
 have eD:(M.els.flatMap aN).getD (i*2+0) .bz=pL x.l:=c 0 (by decide)
 have gq:(M.els.flatMap aN).getD (i*2+1) .bz=pT .u32 x.fs:=c 1 (by decide)
 have w:re.wrap ((i:Int)+1)=((i+1:Nat):Int):=by rw[aQ (by omega) (by omega)];rfl
 have hd:decide ((i:Int)<(M.els.length:Int))=true:=decide_eq_true (by omega)
 have hin:aP (i:Int) M.els.length=true:=by simp only[aP,di,decide_eq_true_eq];omega
 unfold hY at *
 refine af aH (CA M i) ?_
 simp only[zN,aV,aA.ok,isStr,isInt,aO,isBool,bg,au,bf,an,aD,ak,afm,ajQ,ajX,beq_self_eq_true,bne_self_eq_false,wc,akN,o0,ajE,ew,eD,gq,hd,hin,w]
 exact⟨fun _=>⟨(iY _ x.l (c9 _) (hc x hmem).1),(zU x.fs (hc x hmem).2),(by first | rfl | trivial | (simp[jB,pW,Lz];done)),h⟩,fun q=>(by cases q)⟩
theorem Ti (M:Mo) (o:Out) (h:aU ae env (hY 22 15 175 M 0) o):aU ae env (hY 22 12 175 M M.els.length) o:=by
 have hd:decide ((M.els.length:Int)<(M.els.length:Int))=false:=decide_eq_false (by omega)
 unfold hY at *
 refine af aH (CA M M.els.length) ?_
 simp only[zN,aV,aA.ok,hd]
 exact⟨fun q=>(by cases q),fun _=>h⟩
theorem NU (M:Mo) (hl:M.bp.length≤1000000) (hc : ∀x∈M.bp,cz x.l≤1000000∧x.bs.length≤1000000) (o:Out) (i:Nat) (x:Da) (hx:M.bp[i]? = some x) (h:aU ae env (hY 22 15 175 M (i+1)) o):aU ae env (hY 22 15 175 M i) o:=by
 have hi:i<M.bp.length:=(dT.1 hx).1
 have hmem:=mv hx
 have c:=aW (z:=2) (enc:=aZ) (fun _=>rfl) hx
 have ew:(M.bp.flatMap aZ).getD (i*2) .bz=pL x.l:=c 0 (by decide)
 have eD:(M.bp.flatMap aZ).getD (i*2+0) .bz=pL x.l:=c 0 (by decide)
 have gq:(M.bp.flatMap aZ).getD (i*2+1) .bz=pT .u8 x.bs:=c 1 (by decide)
 have w:re.wrap ((i:Int)+1)=((i+1:Nat):Int):=by rw[aQ (by omega) (by omega)];rfl
 have hd:decide ((i:Int)<(M.bp.length:Int))=true:=decide_eq_true (by omega)
 have hin:aP (i:Int) M.bp.length=true:=by simp only[aP,di,decide_eq_true_eq];omega
 unfold hY at *
 refine af aH (CB M i) ?_
 simp only[zO,aV,aA.ok,isStr,isInt,aO,isBool,bg,au,bf,an,aD,ak,afm,ajQ,ajX,beq_self_eq_true,bne_self_eq_false,wc,akN,o0,ajE,ew,eD,gq,hd,hin,w]
 exact⟨fun _=>⟨(iY _ x.l (c9 _) (hc x hmem).1),(zV x.bs),(by first | rfl | trivial | (simp[jB,pW,Lz];done)),h⟩,fun q=>(by cases q)⟩
theorem Tj (M:Mo) (o:Out) (h:Out.ret (sB true) []=o):aU ae env (hY 22 15 175 M M.bp.length) o:=by
 have hd:decide ((M.bp.length:Int)<(M.bp.length:Int))=false:=decide_eq_false (by omega)
 unfold hY at *
 refine af aH (CB M M.bp.length) ?_
 simp only[zO,aV,aA.ok,hd]
 exact⟨fun q=>(by cases q),fun _=>h⟩
theorem JA (M:Mo) (hM:M.fit) (hn:M.NL):az ae env 22 [.agg (M.aJ.map .p),.agg (M.aJ.map .p)] [] (sB true) []:=by
 refine aa aH (Ta M) ?_
 refine kR (D:=hY 22 0 175 M) (NP M hM.b8 _) (Te M _ ?_)
 refine kR (D:=hY 22 3 175 M) (NQ M hM.b9 _) (Tf M _ ?_)
 refine kR (D:=hY 22 6 175 M) (NR M hM.gls hn.gls _) (Tg M _ ?_)
 refine kR (D:=hY 22 9 175 M) (NS M hM.exs _) (Th M _ ?_)
 refine kR (D:=hY 22 12 175 M) (NT M hM.els hn.els _) (Ti M _ ?_)
 exact kR (D:=hY 22 15 175 M) (NU M hM.bp hn.bp _) (Tj M _ rfl)
theorem JB (M:Mo) (hM:M.fit) (hn:M.NL):az ae env 9 [.agg (M.aJ.map .p),.agg (M.aJ.map .p)] [] (sB true) []:=by
 refine aa aH (S9 M) ?_
 have hb:(!M.st==M.st)=false:=by cases M.st<;>rfl
 simp only[Ls,eF,aA.ok,bne_self_eq_false,hb]
 refine⟨fun q=>(by cases q),fun _=>⟨fun q=>(by cases q),fun _=>⟨fun q=>(by cases q),fun _=>⟨fun q=>(by cases q),fun _=>⟨fun q=>(by cases q),fun _=>⟨fun q=>(by cases q),fun _=>⟨fun q=>(by cases q),fun _=>⟨fun q=>(by cases q),fun _=>⟨fun q=>(by cases q),fun _=>⟨fun q=>(by cases q),fun _=>⟨fun q=>(by cases q),fun _=> ?_⟩⟩⟩⟩⟩⟩⟩⟩⟩⟩⟩
 refine kR (D:=hY 9 1 176 M) (NM M hM.tys _) (Tb M _ ?_)
 refine kR (D:=hY 9 4 176 M) (NN M hM.aX _) (Tc M _ ?_)
 exact kR (D:=hY 9 7 176 M) (NO M hM.fns hn.fns _) (Td M _ ⟨JA M hM hn,rfl⟩)
end Go.Proofs.YtncncijedmfpjaaGreatDoor.N
end
section
set_option linter.unusedSimpArgs false
set_option linter.unusedVariables false
namespace Go.Proofs.YtncncijedmfpjaaGreatDoor.N
open Go Go.Am
theorem az.ajg {f:FuncId} {args:List AV} {m m':Mem} {v:AV} (h:az ae env f args m v m') (i:Nat):az ae env f args m v (m'.set i .dead):=by
 obtain⟨hf,h⟩:=h
 refine⟨hf,fun g w cS cs hr hv hg=> ?_⟩
 obtain⟨w',g',cv,fr,h1,h2,h3,h4,h5,h6,h7,h8⟩:=h g w cS cs hr hv hg
 obtain⟨k1,k2⟩:=h5.kill i
 exact⟨w',g',cv,fr,h1,h2,h3,h4,k1,h6.trans k2,h7,by simpa using h8⟩
theorem NV (zs:List Int) (i:Nat) (z:Int):dz (bN .u8 zs) i [.sc (.int .u8 z)]=bN .u8 (zs.set i z):=by
 simp[dz,bN,List.map_set]
theorem aev (cap:Nat) (hc:cap≤9223372036854775807) : ∀(r i:Nat) (zs:List Int),i+r=cap→cap≤zs.length →
  aU ae env (ah ae env 14 0 [.ms 0 0 cap 1 (some cap),sI .i64 i] [.pc (bN .u8 zs)] 1 22) (.ret (.aK []) [.pc (bN .u8 (ovF r i zs))]):=by
 intro r
 induction r with
 |zero=>
  intro i zs hi hz
  have hd:decide ((i:Int)<(cap:Int))=false:=decide_eq_false (by omega)
  refine af aH (K6 zs 0 cap i 0) ?_
  simp only[Jm,aV,aA.ok,hd]
  exact⟨fun q=>(by cases q),fun _=>(by first | exact akX | rfl)⟩
 |succ r ih=>
  intro i zs hi hz
  have nW:i<zs.length:=by omega
  have hd:decide ((i:Int)<(cap:Int))=true:=decide_eq_true (by omega)
  have hin:aP (i:Int) cap=true:=by simp only[aP,di,decide_eq_true_eq];omega
  have w:re.wrap ((i:Int)+1)=((i+1:Nat):Int):=by rw[afz];push_cast;omega
  have hc0:(bN .u8 zs).getD (0+i*1) .bz = .sc (.int .u8 (zs.getD i 0)):=by
   rw[Nat.zero_add,ajS];exact pH .u8 zs i nW
  have hlen:(bN .u8 zs).length=zs.length:=my ..
  refine af aH (K6 zs 0 cap i (zs.getD i 0)) ?_
  simp only[Jm,aV,aA.ok,hd,hin,w,isInt,au,afm,ajQ,ajX,beq_self_eq_true,hc0,hlen,ajp]
  refine⟨fun _=>⟨trivial,trivial,trivial,trivial,by omega,trivial,?_⟩,fun q=>(by cases q)⟩
  have k:=ih (i+1) (zs.set i (ajw.wrap (BitVec.ofInt 8 (zs.getD i 0) ^^^ BitVec.ofInt 8 90).toNat)) (by omega) (by rw[List.length_set];exact hz)
  rw[show(0+i*1)=i by omega,NV]
  exact k
theorem Lt (zs:List Int) (n cap:Nat) (h1:n≤cap) (h2:cap≤zs.length) (h3:zs.length≤9223372036854775807):az ae env 14 [.ms 0 0 n 1 (some cap)] [.pc (bN .u8 zs)] (.aK []) [.dead]:=by
 refine az.ajg (m':=[.pc (bN .u8 (ovF cap 0 zs))]) ?_ 0
 refine aa aH (Ws zs n cap 0 0) ?_
 have hc:(bif cap.beq 0 then 0 else 0)=0:=by cases cap.beq 0<;>rfl
 simp only[Sr,aV,aA.ok,hc,afm,Nat.sub_zero,ajp,ajQ]
 exact⟨c9 _,aev cap (by omega) cap 0 zs (by omega) h2⟩
theorem XR (n:Nat) (X:List AV):az ae env 14 [.ms 0 0 n 1 none] [.ob (.gb 5) X] (.aK []) [.dead]:=
 az.ab3 (Lt [] 0 0 (c9 _) (c9 _) (by decide)).1 fun zs cap h1 h2 h3=>Lt zs n cap h1 h2 h3
theorem Tk:az ae env 14 [.os none 0 0 []] [] (.aK []) []:=aa aH Wt rfl
theorem XS (X:List Nat):az ae env 8 [.ms 0 0 X.length 1 none,.p (.ps X.length 1 (bt X))] [gB X] (sB true) [gB X]:=by
 have ht:List.take (X.length*1) (bt X)=bt X:=List.take_of_length_le (by rw[aT];omega)
 refine aa aH (Wu X.length X.length (bt X) (bt X)) ?_
 simp only[Ss,aA.ok,List.drop_zero,←List.map_take,ht,Jv,ko,gx,bE,my,aT,ajQ,ajX,beq_self_eq_true,ajp]
 exact⟨by omega,trivial,(by first | exact akX | rfl)⟩
theorem Lu (l:List Nat):az ae env 8 [.p (.ps l.length 1 (bt l)),.p (.ps l.length 1 (bt l))] [] (sB true) []:=by
 have h:=zV (l.map fun(c:Nat)=>(c:Int))
 rw[my,show bN .u8 (l.map fun(c:Nat)=>(c:Int))=bt l by simp[bN,bt]] at h
 exact h
end Go.Proofs.YtncncijedmfpjaaGreatDoor.N
end
section
namespace Go.Proofs.YtncncijedmfpjaaGreatDoor.N
open Go Go.Am
def AN:Env where
 ec:=uR tabs
 wr:=wrs
 keep _ _:=none
def NW:dH:=⟨17,[.agg [.os none 0 0 [],.os none 0 0 [],.os none 0 0 [],.os none 0 0 [],.os none 0 0 [],.os none 0 0 [],.os none 0 0 [],.p (.sc (.bool false)),.p (.sc (.int .u32 0)),.os none 0 0 [],.os none 0 0 []]],[],.p (.sc (.int .i64 0)),[]⟩
theorem amD:az ae AN NW.g NW.args NW.m NW.v NW.m':=gi aH (K:=[]) mj (n:=10000000) (by kernel_rfl)
def aew:List dH:=NW::[]
theorem Tl:gT ae AN aew:=iQ amD mj
def NX:dH:=⟨7,[.agg [.os none 0 0 [],.os none 0 0 [],.os none 0 0 [],.os none 0 0 [],.os none 0 0 [],.os none 0 0 [],.os none 0 0 [],.p (.sc (.bool false)),.p (.sc (.int .u32 0)),.os none 0 0 [],.os none 0 0 []]],[],.aK [.os none 8 1 [.sc (.int .u8 0),.sc (.int .u8 97),.sc (.int .u8 115),.sc (.int .u8 109),.sc (.int .u8 1),.sc (.int .u8 0),.sc (.int .u8 0),.sc (.int .u8 0)],.p (.sc (.int .i64 0))],[]⟩
theorem amE:az ae AN NX.g NX.args NX.m NX.v NX.m':=gi aH (K:=aew) Tl (n:=10000000) (by kernel_rfl)
def aex:List dH:=NX::aew
theorem Tm:gT ae AN aex:=iQ amE Tl
def NY:dH:=⟨17,[.agg [.os none 0 0 [],.os none 0 0 [],.os none 0 0 [],.os none 0 0 [],.os none 1 3 [.sc (.int .u32 1),.sc (.int .u32 2),.sc (.bool true)],.os none 0 0 [],.os none 0 0 [],.p (.sc (.bool false)),.p (.sc (.int .u32 0)),.os none 0 0 [],.os none 0 0 []]],[],.p (.sc (.int .i64 0)),[]⟩
theorem amF:az ae AN NY.g NY.args NY.m NY.v NY.m':=gi aH (K:=aex) Tm (n:=10000000) (by kernel_rfl)
def aey:List dH:=NY::aex
theorem Tn:gT ae AN aey:=iQ amF Tm
def NZ:dH:=⟨7,[.agg [.os none 0 0 [],.os none 0 0 [],.os none 0 0 [],.os none 0 0 [],.os none 1 3 [.sc (.int .u32 1),.sc (.int .u32 2),.sc (.bool true)],.os none 0 0 [],.os none 0 0 [],.p (.sc (.bool false)),.p (.sc (.int .u32 0)),.os none 0 0 [],.os none 0 0 []]],[],.aK [.os (some 0) 14 1 [.sc (.int .u8 0),.sc (.int .u8 97),.sc (.int .u8 115),.sc (.int .u8 109),.sc (.int .u8 1),.sc (.int .u8 0),.sc (.int .u8 0),.sc (.int .u8 0),.sc (.int .u8 5),.sc (.int .u8 4),.sc (.int .u8 1),.sc (.int .u8 1),.sc (.int .u8 1),.sc (.int .u8 2)],.p (.sc (.int .i64 0))],[.tok]⟩
theorem amG:az ae AN NZ.g NZ.args NZ.m NZ.v NZ.m':=gi aH (K:=aey) Tn (n:=10000000) (by kernel_rfl)
def ajh:List dH:=NZ::aey
theorem aez:gT ae AN ajh:=iQ amG Tn
theorem aeA:az ae AN 5 [] [] (.p (.sc (.bool true))) []:=gi aH (K:=ajh) aez (n:=10000000) (by kernel_rfl)
theorem zW:az ae env 5 [] [] (sB true) []:=az.env (E:=AN) aeA fun _ _ q=>q
end Go.Proofs.YtncncijedmfpjaaGreatDoor.N
end
section
set_option linter.unusedSimpArgs false
set_option linter.unusedVariables false
namespace Go.Proofs.YtncncijedmfpjaaGreatDoor.N
open Go Go.Am
def twC (M:Mo) (d:Int) (lg:Bool) (e g:Int) (n k:Nat) (X Y:List PV) (f:FuncId) (args:List AV) (m:Mem):Option (AV×Mem):=cond (ba f 6) (some (sB lg,m)) (cond (ba f 10) (some (.agg (M.aJ.map .p),m)) (cond (ba f 7||ba f 11) (some (.aK [.p (.ps n 1 X),sI .i64 e],m)) (cond (ba f 12) (some (.aK [.ms 0 0 k 1 none,sI .i64 g],[.ob (.gb 5) (Y.map .p)])) (cond (ba f 13) (some (.aK [.p (.ps k 1 Y),sI .i64 g],m)) (cond (ba f 8||ba f 9||ba f 5) (some (sB true,m)) (cond (ba f 14) (some (.aK [],[.dead])) none))))))
def tvC (M:Mo) (d:Int) (lg:Bool) (e g:Int) (n k:Nat) (X Y:List PV) (f:FuncId) (args:List AV) (m:Mem):Option (AV×Mem):=cond (ba f 6) (some (sB lg,m)) (cond (ba f 10) (some (.agg (M.aJ.map .p),m)) (cond (ba f 7||ba f 11) (some (.aK [.p (.ps n 1 X),sI .i64 e],m)) (cond (ba f 12) (some (.aK [.os none 0 0 [],sI .i64 g],m)) (cond (ba f 13) (some (.aK [.p (.ps 0 1 []),sI .i64 g],m)) (cond (ba f 8||ba f 9||ba f 5) (some (sB true,m)) (cond (ba f 14) (some (.aK [],m)) none))))))
def aji (M:Mo) (d:Int) (lg:Bool) (e g:Int) (n:Nat) (k:Nat) (X:List PV) (Y:List PV):bA:=aM (twC M d lg e g n k X Y) aC [] [(4,0,0),(4,9,4),(4,9,9)] []
def amH:Sc:=(.fork .fin (.fork (.lit .fin) .fin))
def JC (M:Mo) (d:Int) (lg:Bool) (e g:Int) (n:Nat) (k:Nat) (X:List PV) (Y:List PV):aA:=
 (.call ⟨6,[.agg (aeM AV.p M.aJ),sI .i64 5000],[],.p (.sc (.bool lg)),[]⟩
 (.test (lg)
 gj
 (.call ⟨10,[.agg (aeM AV.p M.aJ)],[],.agg (aeM AV.p M.aJ),[]⟩
 (.call ⟨7,[.agg (aeM AV.p M.aJ)],[],.aK [.p (.ps n 1 X),sI .i64 e],[]⟩
 (.call ⟨11,[.agg (aeM AV.p M.aJ)],[],.aK [.p (.ps n 1 X),sI .i64 e],[]⟩
 (.call ⟨12,[.agg (aeM AV.p M.aJ),sI .i64 d],[],.aK [.ms 0 0 k 1 none,sI .i64 g],[.ob (dS.gb 5) (aeM AV.p Y)]⟩
 (.call ⟨13,[.agg (aeM AV.p M.aJ),sI .i64 d],[],.aK [.p (.ps k 1 Y),sI .i64 g],[]⟩
 (.test (e != e)
 (.out (.ret (sB false) []))
 (.test (g != g)
 (.out (.ret (sB false) []))
 (.call ⟨8,[.p (.ps n 1 X),.p (.ps n 1 X)],[],sB true,[]⟩
 (.call ⟨8,[.ms 0 0 k 1 none,.p (.ps k 1 Y)],[.ob (dS.gb 5) (aeM av (aeM av (aeM AV.p Y)))],sB true,[.ob (dS.gb 5) (aeM av (aeM av (aeM AV.p Y)))]⟩
 (.call ⟨14,[.ms 0 0 k 1 none],[.ob (dS.gb 5) (aeM av (aeM av (aeM av (aeM av (aeM AV.p Y)))))],.aK [],[.dead]⟩
 (.call ⟨9,[.agg (aeM AV.p M.aJ),.agg (aeM AV.p M.aJ)],[],sB true,[]⟩
 (.call ⟨5,[],[],sB true,[]⟩
 gj))))))))))))))
theorem Lv (M:Mo) (d:Int) (lg:Bool) (e g:Int) (n:Nat) (k:Nat) (X:List PV) (Y:List PV):aI ae env (aji M d lg e g n k X Y) 1000000 4 ([AV.agg (mV M),sI re d]) ([]) amH=JC M d lg e g n k X Y:=by kernel_rfl
def ajj (M:Mo) (d:Int) (lg:Bool) (e g:Int) (n:Nat) (k:Nat) (X:List PV) (Y:List PV):bA:=aM (tvC M d lg e g n k X Y) aC [] [(4,0,0),(4,9,4),(4,9,9)] []
def amI:Sc:=(.fork .fin (.fork (.lit .fin) .fin))
def To (M:Mo) (d:Int) (lg:Bool) (e g:Int) (n:Nat) (k:Nat) (X:List PV) (Y:List PV):aA:=
 (.call ⟨6,[.agg (aeM AV.p M.aJ),sI .i64 5000],[],.p (.sc (.bool lg)),[]⟩
 (.test (lg)
 gj
 (.call ⟨10,[.agg (aeM AV.p M.aJ)],[],.agg (aeM AV.p M.aJ),[]⟩
 (.call ⟨7,[.agg (aeM AV.p M.aJ)],[],.aK [.p (.ps n 1 X),sI .i64 e],[]⟩
 (.call ⟨11,[.agg (aeM AV.p M.aJ)],[],.aK [.p (.ps n 1 X),sI .i64 e],[]⟩
 (.call ⟨12,[.agg (aeM AV.p M.aJ),sI .i64 d],[],.aK [bB,sI .i64 g],[]⟩
 (.call ⟨13,[.agg (aeM AV.p M.aJ),sI .i64 d],[],.aK [.p (.ps 0 1 []),sI .i64 g],[]⟩
 (.test (e != e)
 (.out (.ret (sB false) []))
 (.test (g != g)
 (.out (.ret (sB false) []))
 (.call ⟨8,[.p (.ps n 1 X),.p (.ps n 1 X)],[],sB true,[]⟩
 (.call ⟨8,[bB,.p (.ps 0 1 [])],[],sB true,[]⟩
 (.call ⟨14,[bB],[],.aK [],[]⟩
 (.call ⟨9,[.agg (aeM AV.p M.aJ),.agg (aeM AV.p M.aJ)],[],sB true,[]⟩
 (.call ⟨5,[],[],sB true,[]⟩
 gj))))))))))))))
theorem XT (M:Mo) (d:Int) (lg:Bool) (e g:Int) (n:Nat) (k:Nat) (X:List PV) (Y:List PV):aI ae env (ajj M d lg e g n k X Y) 1000000 4 ([AV.agg (mV M),sI re d]) ([]) amI=To M d lg e g n k X Y:=by kernel_rfl
def ajk:bA:=aM aE aC [] [] []
def amJ:Sc:= .fin
def Tp:aA:=
 gj
theorem XU:aI ae env ajk 1000000 8 ([AV.os Option.none 0 0 [],AV.p (PV.ps 0 1 [])]) ([]) amJ=Tp:=by kernel_rfl
theorem Tq (M:Mo) (h:gp M=false):DV M:=fun x hx=>by
 have b:=(List.any_eq_false.1 h) x hx
 simp only[BI,decide_eq_true_eq] at b
 exact Co (s:=x) (by omega)
theorem XV {M:Mo} (h:kN M=false):(∀x∈M.aX,x.mo.data.toList.length≤5000∧x.nm.data.toList.length≤5000) ∧ ∀x∈M.exs,x.nm.data.toList.length≤5000:=by
 unfold kN at h
 split at h
 · cases h
 rename_i q
 have h : ¬Ge M>5000:=by simpa using h
 have hl:(M.aX.length:Int)+M.exs.length≤lens M:=by unfold lens;omega
 have r1:=bY yO M.fns (lens M)
 have r2:=bY yP M.gls (bR mF (lens M) M.fns)
 have r3:=bY yQ M.els (bR pK (bR mF (lens M) M.fns) M.gls)
 have r4:=bY yR M.bp (bR ur (bR pK (bR mF (lens M) M.fns) M.gls) M.els)
 have r5:=bY BT M.aX (bR BS (bR ur (bR pK (bR mF (lens M) M.fns) M.gls) M.els) M.bp)
 have r6:=bY Gd M.exs (bR MD (bR BS (bR ur (bR pK (bR mF (lens M) M.fns) M.gls) M.els) M.bp) M.aX)
 unfold Ge at h
 refine⟨fun x hx=> ?_,fun x hx=> ?_⟩
 · have t:=iD BT M.aX (bR BS (bR ur (bR pK (bR mF (lens M) M.fns) M.gls) M.els) M.bp) x hx
   have hp:0<M.aX.length:=amC hx
   have e:MD x=min (x.mo.data.toList.length:Int) 5000+min (x.nm.data.toList.length:Int) 5000:=rfl
   omega
 · have t:=iD Gd M.exs (bR MD (bR BS (bR ur (bR pK (bR mF (lens M) M.fns) M.gls) M.els) M.bp) M.aX) x hx
   have hp:0<M.exs.length:=amC hx
   have e:Ym x=min (x.nm.data.toList.length:Int) 5000:=rfl
   omega
theorem XW {a:Int} (ha:(Lit.int .u32 a).wf=true):0≤a∧a<4294967296:=by
 have hb:aeG.min≤a∧a≤aeG.max:=by simpa[Lit.wf] using ha
 have h0:(0:Int)≤a:=hb.1
 have h1:a≤4294967295:=hb.2
 omega
theorem u8r {a:Int} (ha:(Lit.int .u8 a).wf=true):0≤a:=by
 have hb:ajw.min≤a∧a≤ajw.max:=by simpa[Lit.wf] using ha
 exact hb.1
theorem XX {M:Mo} (hw:M.wf) (h:kN M=false):M.dB:=by
 have h5:=(BU h).2.2
 have hn:=Ln h
 obtain⟨hi,he⟩:=XV h
 unfold lens at h5
 exact{len:=⟨by omega,by omega,by omega,by omega,by omega,by omega,by omega,by omega,by omega⟩
       aX:=fun x hx=>⟨bx (hi x hx).1 (by decide),bx (hi x hx).2 (by decide)⟩
       fns:=fun x hx=>⟨(hw.fns.2 x hx).2.2.2,hn.fns x hx⟩
       b8:=hw.b8.2
       b9:=hw.b9.2
       gls:=fun x hx=>⟨(hw.gls.2 x hx).2,hn.gls x hx⟩
       exs:=fun x hx=>⟨bx (he x hx) (by decide),(XW (hw.exs.2 x hx).2.2).1,(XW (hw.exs.2 x hx).2.2).2⟩
       sn:=XW hw.sn
       els:=fun x hx=>⟨(hw.els.2 x hx).1.2,(hn.els x hx).1,(hn.els x hx).2,fun t ht=>XW ((hw.els.2 x hx).2.2 t ht)⟩
       bp:=fun x hx=>⟨(hw.bp.2 x hx).1.2,(hn.bp x hx).1,(hn.bp x hx).2,fun t ht=>u8r ((hw.bp.2 x hx).2.2 t ht)⟩}
theorem Tr:az ae env 8 [.os none 0 0 [],.p (.ps 0 1 [])] [] (sB true) []:=aa aH XU (by unfold Tp;exact rfl)
theorem TC (M:Mo) (hw:M.wf) (hs:M.short) (d:Int):az ae env 4 [.agg (M.aJ.map .p),sI .i64 d] [] (sB true) []:=by
 have hlg:=I9 M hw hs
 cases hl:kN M with
 |true=>
  rw[hl] at hlg
  refine aa aH (Lv M d true 0 0 0 0 [] []) ?_
  simp only[JC,aV,aA.ok]
  exact⟨hlg,fun _=>akX,fun q=>(by cases q)⟩
 |false=>
  rw[hl] at hlg
  obtain⟨hf,Oy,h5⟩:=BU hl
  have hn:=Ln hl
  have hy:=XX hw hl
  have hel:M.els.length≤5000:=hy.len.2.2.2.2.2.2.2.1
  have hc:=Jf M hf Oy hel (Tq M)
  have hm:=G8 hy hf hw Oy
  have hr:=Ek hy hc
  have TH:=qv hy hc d
  have hsw:=JB M hf hn
  have hcp:=Jy M hf hn
  by_cases h0:(kO M d).length=0
  · have hb:=az.ofG (D7 hy hf hw Oy d h0)
    have e0:kO M d=[]:=List.eq_nil_of_length_eq_zero h0
    rw[e0] at TH
    refine aa aH (XT M d false (nh M) (mH M d) (kU M).length 0 (bt (kU M)) []) ?_
    simp only[To,aV,aA.ok,bne_self_eq_false]
    exact⟨hlg,fun q=>(by cases q),fun _=>⟨hcp,hm,hr,hb,TH,fun q=>(by cases q),fun _=>⟨fun q=>(by cases q),fun _=>⟨Lu _,Tr,Tk,hsw,zW,akX⟩⟩⟩⟩
  · have hb:=az.ofG (D8 hy hf hw Oy d h0)
    refine aa aH (Lv M d false (nh M) (mH M d) (kU M).length (kO M d).length (bt (kU M)) (bt (kO M d))) ?_
    simp only[JC,aV,aA.ok,bne_self_eq_false,bE]
    exact⟨hlg,fun q=>(by cases q),fun _=>⟨hcp,hm,hr,hb,TH,fun q=>(by cases q),fun _=>⟨fun q=>(by cases q),fun _=>⟨Lu _,XS _,XR _ _,hsw,zW,akX⟩⟩⟩⟩
end Go.Proofs.YtncncijedmfpjaaGreatDoor.N
end
