import Derived.Test.YtncncijedmfpjaaGreatDoorMS
open Nat renaming beq→bj,le_refl→dd,mul_one→ac8
open Go.Proofs.Tryz renaming prog→ae
open ByteArray renaming mk→acP
open List renaming flatMap→ac6,getElem?_eq_some_iff→ee,mem_of_getElem?→oi,getElem?_eq_getElem→de,map→acC,getD_eq_getElem?_getD→di,take_of_length_le→eh,take_add_one→adE,map_cons→uv
open Go.IntKind renaming i64→sa,u32→acu,i32→acR
open Bool renaming and_eq_true→dp,and_true→ac7,true_and→ade,not_eq_false'→adF
open Int renaming toNat_natCast→acN
open True renaming intro→ads
noncomputable section
section
set_option linter.unusedSimpArgs false
set_option linter.unusedVariables false
namespace Go.Proofs.YtncncijedmfpjaaGreatDoor.N
open Go Go.Am
def qwQ (M N:Mo) (i:Nat) (b:Bool) (k:Nat) (f:FuncId) (_:List AV) (m:Mem):Option (AV×Mem):=cond (bj f 46||bj f 47||bj f 21||bj f 22||bj f 8) (some (sB b,m)) none
def qwT (M N:Mo) (i:Nat) (b:Bool) (k:Nat) (f:FuncId) (_:List AV) (m:Mem):Option (AV×Mem):=cond (bj f 46) (some (sB true,m)) (cond (bj f 47||bj f 8) (some (sB b,m)) none)
def qwF (M N:Mo) (i:Nat) (b:Bool) (k:Nat) (f:FuncId) (_:List AV) (m:Mem):Option (AV×Mem):=cond (bj f 46) (some (sB false,m)) none
def FL (l:List (Nat×Nat×AV)) (f d:Nat):Option AV:=match l with
 |[]=>none
 |(f',d',v)::r=>cond (bj f f'&&bj d d') (some v) (FL r f d)
def pE:Env:={env with told:=FL [(9,156,sB false),(22,66,sB false)]}
def BB:Env:={env with told:=FL [(9,156,sB true),(22,66,sB true)]}
def VN:bN:=aP aF aC [(47,1)] [(47,0,0)] []
def Zl:Sc:= .fin
def BC (k:Nat) (n:Nat) (cs:List PV) (ds:List PV):aA:=
 (.test ((↑k:Int) != (↑n:Int))
 (.out (.ret (sB false) []))
 (.at (af ae env 47 1 [.p (.ps k 1 cs),.p (.ps n 1 ds),sI .i64 0] ([]) 0 26)))
theorem D3 (k:Nat) (n:Nat) (cs:List PV) (ds:List PV):aG ae env VN 1000000 47 ([AV.p (PV.ps k 1 cs),AV.p (PV.ps n 1 ds)]) ([]) Zl=BC k n cs ds:=by kernel_rfl
def VO:bN:=aP aF aC [] [] [(8,2,1),(8,2,3)]
def Zm:Sc:= .fin
def Hp (k:Nat) (n:Nat) (cs:List PV) (ds:List PV):aA:=
 (.must (cs.all isByte&&true)
 (.must (ds.all isByte&&true)
 (.out (.ret (.p (.sc (.bool ((acP (acC Am.byteOf cs).toArray).data.toList==(acP (acC Am.byteOf ds).toArray).data.toList)))) []))))
theorem NF (k:Nat) (n:Nat) (cs:List PV) (ds:List PV):aG ae env VO 1000000 8 ([AV.p (PV.ps k 1 cs),AV.p (PV.ps n 1 ds)]) ([]) Zm=Hp k n cs ds:=by kernel_rfl
def VQ:bN:=aP aF aC [(46,1)] [(46,0,0)] []
def Zn:Sc:= .fin
def BD (l:List Ins) (m:List Ins):aA:=
 (.test ((↑l.length:Int) != (↑m.length:Int))
 (.out (.ret (sB false) []))
 (.at (af ae env 46 1 [.p (.ps l.length 8 (ak l)),.p (.ps m.length 8 (ak m)),sI .i64 0] ([]) 0 84)))
theorem D4 (l:List Ins) (m:List Ins):aG ae env VQ 1000000 46 ([aL l,aL m]) ([]) Zn=BD l m:=by kernel_rfl
def VR:bN:=aP aF aC [] [(21,2,6)] []
def Zo (lo:Int) (lo':Int) (l:List Ins) (m:List Ins) (b:Bool):Sc:=(.fork (.ans 46 (.p (.sc (.bool b))) ([]) .fin) .fin)
def BE (lo:Int) (lo':Int) (l:List Ins) (m:List Ins) (b:Bool):aA:=
 (.test (lo==lo')
 (.call ⟨46,[.p (.ps l.length 8 (ak l)),.p (.ps m.length 8 (ak m))],[],.p (.sc (.bool b)),[]⟩
 (.out (.ret (.p (.sc (.bool b))) [])))
 (.out (.ret (sB false) [])))
theorem D5 (lo:Int) (lo':Int) (l:List Ins) (m:List Ins) (b:Bool):aG ae env VR 1000000 21 ([AV.agg [sI sa lo,aL l],AV.agg [sI sa lo',aL m]]) ([]) (Zo lo lo' l m b)=BE lo lo' l m b:=by kernel_rfl
def VS:bN:=aP aF aC [(9,1)] [(9,2,8),(9,2,17),(9,2,26),(9,2,35),(9,2,44),(9,2,53),(9,2,62),(9,2,69),(9,2,76),(9,2,85),(9,0,0)] []
def Zp:Sc:=(.fork (.lit (.lit (.lit (.lit (.lit (.lit (.lit (.lit (.lit (.lit .fin)))))))))) (.fork (.lit (.lit (.lit (.lit (.lit (.lit (.lit (.lit (.lit .fin))))))))) (.fork (.lit (.lit (.lit (.lit (.lit (.lit (.lit (.lit .fin)))))))) (.fork (.lit (.lit (.lit (.lit (.lit (.lit (.lit .fin))))))) (.fork (.lit (.lit (.lit (.lit (.lit (.lit .fin)))))) (.fork (.lit (.lit (.lit (.lit (.lit .fin))))) (.fork (.lit (.lit (.lit (.lit .fin)))) (.fork (.lit (.lit (.lit .fin))) (.fork (.lit (.lit .fin)) (.fork (.lit .fin) .fin))))))))))
def dU:aA:=
 (.out (.ret (sB false) []))
def BF (M:Mo) (N:Mo):aA:=
 (.test ((↑M.tys.length:Int) != (↑N.tys.length:Int))
 (dU)
 (.test ((↑M.aZ.length:Int) != (↑N.aZ.length:Int))
 (dU)
 (.test ((↑M.fns.length:Int) != (↑N.fns.length:Int))
 (dU)
 (.test ((↑M.dh.length:Int) != (↑N.dh.length:Int))
 (dU)
 (.test ((↑M.dw.length:Int) != (↑N.dw.length:Int))
 (dU)
 (.test ((↑M.gls.length:Int) != (↑N.gls.length:Int))
 (dU)
 (.test ((↑M.exs.length:Int) != (↑N.exs.length:Int))
 (dU)
 (.test (!M.st==N.st)
 (dU)
 (.test (M.sn != N.sn)
 (dU)
 (.test ((↑M.els.length:Int) != (↑N.els.length:Int))
 (dU)
 (.test ((↑M.aY.length:Int) != (↑N.aY.length:Int))
 (dU)
 (.at (af ae env 9 1 [.mp 0 0,.mp 1 0,sI .i64 0] ([.pc M.aJ,.pc N.aJ]) 0 176)))))))))))))
theorem D6 (M:Mo) (N:Mo):aG ae env VS 1000000 9 ([AV.agg (acC AV.p M.aJ),AV.agg (acC AV.p N.aJ)]) ([]) Zp=BF M N:=by kernel_rfl
def VT:bN:=aP aF aC [(22,0)] [] []
def Zq:Sc:= .fin
def Q2 (M:Mo) (N:Mo):aA:=
 (.at (af ae env 22 0 [.mp 0 0,.mp 1 0,sI .i64 0] ([.pc M.aJ,.pc N.aJ]) 0 175))
theorem D7 (M:Mo) (N:Mo):aG ae env VT 1000000 22 ([AV.agg (acC AV.p M.aJ),AV.agg (acC AV.p N.aJ)]) ([]) Zq=Q2 M N:=by kernel_rfl
def Q3:bN:=aP aF aC [(47,1)] [(47,0,2),(47,0,3)] [(47,0,3)]
def VU:Sc:= .fin
def xh (k:Nat) (n:Nat) (i:Nat) (cs:List PV) (ds:List PV):aA:=
 (.test (decide ((↑i:Int)<(↑k:Int)))
 (.must (aM (↑i:Int) k&&true&&(isInt acu (av cs (aB i*1))&&(aM (↑i:Int) n&&true&&(isInt acu (av ds (aB i*1))&&true)))&&true)
 (.test (aq (av cs (aB i*1)) != aq (av ds (aB i*1)))
 (.out (.ret (sB false) []))
 (.at (af ae env 47 1 [.p (.ps k 1 cs),.p (.ps n 1 ds),sI .i64 (sa.wrap ((↑i:Int)+1))] ([]) 0 26))))
 A2)
theorem z8 (k:Nat) (n:Nat) (i:Nat) (cs:List PV) (ds:List PV):grow ae env Q3 1000000 true (af ae env 47 1 ([AV.p (PV.ps k 1 cs),AV.p (PV.ps n 1 ds),sI sa (↑i:Int)]) ([]) 0 26) VU atEnd=xh k n i cs ds:=by kernel_rfl
def Q4:bN:=aP aF aC [(46,1)] [(46,0,2),(46,8,6),(46,8,13),(46,8,20),(46,8,27),(46,8,34),(46,8,42),(46,8,50),(46,0,3)] [(46,0,3)]
def VV (l:List Ins) (m:List Ins) (i:Nat) (b1:Bool) (b2:Bool) (b3:Bool):Sc:=(.fork (.fork (.lit (.lit (.lit (.lit (.lit (.lit (.lit .fin))))))) (.fork (.lit (.lit (.lit (.lit (.lit (.lit .fin)))))) (.fork (.lit (.lit (.lit (.lit (.lit .fin))))) (.fork (.lit (.lit (.lit (.lit .fin)))) (.fork (.lit (.lit (.lit .fin))) (.ans 47 (.p (.sc (.bool b1))) ([]) (.fork (.lit (.lit .fin)) (.ans 46 (.p (.sc (.bool (bif bj 1 1 then b2 else b3)))) ([]) (.fork (.lit .fin) (.ans 46 (.p (.sc (.bool (bif bj 2 1 then b2 else b3)))) ([]) .fin)))))))))) .fin)
def ez:aA:=
 (.out (.ret (sB false) []))
def xj (l:List Ins) (m:List Ins) (i:Nat) (b1:Bool) (b2:Bool) (b3:Bool):aA:=
 (.test (decide ((↑i:Int)<(↑l.length:Int)))
 (.must (aM (↑i:Int) l.length&&true&&true&&(isInt sa (av (ak l) (aB i*8))&&(isInt sa (av (ak l) (aB i*8+1))&&(isInt acu (av (ak l) (aB i*8+1+1))&&(isInt acu (av (ak l) (aB i*8+1+1+1))&&(isInt acR (av (ak l) (aB i*8+1+1+1+1))&&(aQ (av (ak l) (aB i*8+1+1+1+1+1))&&(aQ (av (ak l) (aB i*8+1+1+1+1+1+1))&&(aQ (av (ak l) (aB i*8+1+1+1+1+1+1+1))&&true)))))))&&true&&(aM (↑i:Int) m.length&&true&&true&&(isInt sa (av (ak m) (aB i*8))&&(isInt sa (av (ak m) (aB i*8+1))&&(isInt acu (av (ak m) (aB i*8+1+1))&&(isInt acu (av (ak m) (aB i*8+1+1+1))&&(isInt acR (av (ak m) (aB i*8+1+1+1+1))&&(aQ (av (ak m) (aB i*8+1+1+1+1+1))&&(aQ (av (ak m) (aB i*8+1+1+1+1+1+1))&&(aQ (av (ak m) (aB i*8+1+1+1+1+1+1+1))&&true)))))))&&true&&true)))&&true)
 (.test (aq (av (ak l) (aB i*8)) != aq (av (ak m) (aB i*8)))
 (ez)
 (.test (aq (av (ak l) (aB i*8+1)) != aq (av (ak m) (aB i*8+1)))
 (ez)
 (.test (aq (av (ak l) (aB i*8+1+1)) != aq (av (ak m) (aB i*8+1+1)))
 (ez)
 (.test (aq (av (ak l) (aB i*8+1+1+1)) != aq (av (ak m) (aB i*8+1+1+1)))
 (ez)
 (.test (aq (av (ak l) (aB i*8+1+1+1+1)) != aq (av (ak m) (aB i*8+1+1+1+1)))
 (ez)
 (.call ⟨47,[.p (.ps (az (av (ak l) (aB i*8+1+1+1+1+1))) (aR (av (ak l) (aB i*8+1+1+1+1+1))) (an (av (ak l) (aB i*8+1+1+1+1+1)))),.p (.ps (az (av (ak m) (aB i*8+1+1+1+1+1))) (aR (av (ak m) (aB i*8+1+1+1+1+1))) (an (av (ak m) (aB i*8+1+1+1+1+1))))],[],.p (.sc (.bool b1)),[]⟩
 (.test (!b1)
 (ez)
 (.call ⟨46,[.p (.ps (az (av (ak l) (aB i*8+1+1+1+1+1+1))) (aR (av (ak l) (aB i*8+1+1+1+1+1+1))) (an (av (ak l) (aB i*8+1+1+1+1+1+1)))),.p (.ps (az (av (ak m) (aB i*8+1+1+1+1+1+1))) (aR (av (ak m) (aB i*8+1+1+1+1+1+1))) (an (av (ak m) (aB i*8+1+1+1+1+1+1))))],[],.p (.sc (.bool (bif bj 1 1 then b2 else b3))),[]⟩
 (.test (!bif bj 1 1 then b2 else b3)
 (ez)
 (.call ⟨46,[.p (.ps (az (av (ak l) (aB i*8+1+1+1+1+1+1+1))) (aR (av (ak l) (aB i*8+1+1+1+1+1+1+1))) (an (av (ak l) (aB i*8+1+1+1+1+1+1+1)))),.p (.ps (az (av (ak m) (aB i*8+1+1+1+1+1+1+1))) (aR (av (ak m) (aB i*8+1+1+1+1+1+1+1))) (an (av (ak m) (aB i*8+1+1+1+1+1+1+1))))],[],.p (.sc (.bool (bif bj 2 1 then b2 else b3))),[]⟩
 (.test (!bif bj 2 1 then b2 else b3)
 (ez)
 (.at (af ae env 46 1 [.p (.ps l.length 8 (ak l)),.p (.ps m.length 8 (ak m)),sI .i64 (sa.wrap ((↑i:Int)+1))] ([]) 0 84))))))))))))))
 A2)
theorem Aa (l:List Ins) (m:List Ins) (i:Nat) (b1:Bool) (b2:Bool) (b3:Bool):grow ae env Q4 1000000 true (af ae env 46 1 ([aL l,aL m,sI sa (↑i:Int)]) ([]) 0 84) (VV l m i b1 b2 b3) atEnd=xj l m i b1 b2 b3:=by kernel_rfl
def VW:bN:=aP aF aC [(9,1),(9,4)] [(9,0,2),(9,0,3)] [(9,0,3)]
def Zr (M:Mo) (N:Mo) (i:Nat) (b:Bool):Sc:= .fin
def BG (M:Mo) (N:Mo) (i:Nat) (b:Bool):aA:=
 (.test (decide ((↑i:Int)<(↑M.tys.length:Int)))
 (.must (aM (↑i:Int) M.tys.length&&true&&(isInt sa (av (ac6 cK M.tys) (aB i*2))&&(isInt sa (av (ac6 cK M.tys) (aB i*2+1))&&true)&&(aM (↑i:Int) N.tys.length&&true&&(isInt sa (av (ac6 cK N.tys) (aB i*2))&&(isInt sa (av (ac6 cK N.tys) (aB i*2+1))&&true)&&true)))&&true)
 (.test (!(fun r=>aq (av (ac6 cK M.tys) (aB i*2))==aq (av (ac6 cK N.tys) (aB i*2))&&r) ((fun r=>aq (av (ac6 cK M.tys) (aB i*2+1))==aq (av (ac6 cK N.tys) (aB i*2+1))&&r) true))
 (.out (.ret (sB false) []))
 (.at (af ae env 9 1 [.mp 0 0,.mp 1 0,sI .i64 (sa.wrap ((↑i:Int)+1))] ([.pc M.aJ,.pc N.aJ]) 0 176))))
 (.at (af ae env 9 4 [.mp 0 0,.mp 1 0,sI .i64 0] ([.pc M.aJ,.pc N.aJ]) 0 176)))
theorem D8 (M:Mo) (N:Mo) (i:Nat) (b:Bool):grow ae env VW 1000000 true (af ae env 9 1 ([AV.mp 0 0,AV.mp 1 0,sI sa (↑i:Int)]) ([aN.pc M.aJ,aN.pc N.aJ]) 0 176) (Zr M N i b) atEnd=BG M N i b:=by kernel_rfl
def VX:bN:=aP aF aC [(9,4),(9,7)] [(9,0,5),(9,0,6)] [(9,0,6)]
def Zs (M:Mo) (N:Mo) (i:Nat) (b:Bool):Sc:= .fin
def BH (M:Mo) (N:Mo) (i:Nat) (b:Bool):aA:=
 (.test (decide ((↑i:Int)<(↑M.aZ.length:Int)))
 (.must (aM (↑i:Int) M.aZ.length&&true&&(isStr (av (ac6 bp M.aZ) (aB i*3))&&(isStr (av (ac6 bp M.aZ) (aB i*3+1))&&(isInt sa (av (ac6 bp M.aZ) (aB i*3+1+1))&&true))&&(aM (↑i:Int) N.aZ.length&&true&&(isStr (av (ac6 bp N.aZ) (aB i*3))&&(isStr (av (ac6 bp N.aZ) (aB i*3+1))&&(isInt sa (av (ac6 bp N.aZ) (aB i*3+1+1))&&true))&&true)))&&true)
 (.test (!(fun r=>(bh (av (ac6 bp M.aZ) (aB i*3))).data.toList==(bh (av (ac6 bp N.aZ) (aB i*3))).data.toList&&r) ((fun r=>(bh (av (ac6 bp M.aZ) (aB i*3+1))).data.toList==(bh (av (ac6 bp N.aZ) (aB i*3+1))).data.toList&&r) ((fun r=>aq (av (ac6 bp M.aZ) (aB i*3+1+1))==aq (av (ac6 bp N.aZ) (aB i*3+1+1))&&r) true)))
 (.out (.ret (sB false) []))
 (.at (af ae env 9 4 [.mp 0 0,.mp 1 0,sI .i64 (sa.wrap ((↑i:Int)+1))] ([.pc M.aJ,.pc N.aJ]) 0 176))))
 (.at (af ae env 9 7 [.mp 0 0,.mp 1 0,sI .i64 0] ([.pc M.aJ,.pc N.aJ]) 0 176)))
theorem D9 (M:Mo) (N:Mo) (i:Nat) (b:Bool):grow ae env VX 1000000 true (af ae env 9 4 ([AV.mp 0 0,AV.mp 1 0,sI sa (↑i:Int)]) ([aN.pc M.aJ,aN.pc N.aJ]) 0 176) (Zs M N i b) atEnd=BH M N i b:=by kernel_rfl
def VY:bN:=aP aF aC [(22,0),(22,3)] [(22,0,1),(22,0,2)] [(22,0,2)]
def Zt (M:Mo) (N:Mo) (i:Nat) (b:Bool):Sc:= .fin
def BI (M:Mo) (N:Mo) (i:Nat) (b:Bool):aA:=
 (.test (decide ((↑i:Int)<(↑M.dh.length:Int)))
 (.must (aM (↑i:Int) M.dh.length&&true&&(isInt acu (av (ac6 aH M.dh) (aB i*3))&&(isInt acu (av (ac6 aH M.dh) (aB i*3+1))&&(isBool (av (ac6 aH M.dh) (aB i*3+1+1))&&true))&&(aM (↑i:Int) N.dh.length&&true&&(isInt acu (av (ac6 aH N.dh) (aB i*3))&&(isInt acu (av (ac6 aH N.dh) (aB i*3+1))&&(isBool (av (ac6 aH N.dh) (aB i*3+1+1))&&true))&&true)))&&true)
 (.test (!(fun r=>aq (av (ac6 aH M.dh) (aB i*3))==aq (av (ac6 aH N.dh) (aB i*3))&&r) ((fun r=>aq (av (ac6 aH M.dh) (aB i*3+1))==aq (av (ac6 aH N.dh) (aB i*3+1))&&r) ((fun r=>bg (av (ac6 aH M.dh) (aB i*3+1+1))==bg (av (ac6 aH N.dh) (aB i*3+1+1))&&r) true)))
 (.out (.ret (sB false) []))
 (.at (af ae env 22 0 [.mp 0 0,.mp 1 0,sI .i64 (sa.wrap ((↑i:Int)+1))] ([.pc M.aJ,.pc N.aJ]) 0 175))))
 (.at (af ae env 22 3 [.mp 0 0,.mp 1 0,sI .i64 0] ([.pc M.aJ,.pc N.aJ]) 0 175)))
theorem Ea (M:Mo) (N:Mo) (i:Nat) (b:Bool):grow ae env VY 1000000 true (af ae env 22 0 ([AV.mp 0 0,AV.mp 1 0,sI sa (↑i:Int)]) ([aN.pc M.aJ,aN.pc N.aJ]) 0 175) (Zt M N i b) atEnd=BI M N i b:=by kernel_rfl
def VZ:bN:=aP aF aC [(22,3),(22,6)] [(22,0,4),(22,0,5)] [(22,0,5)]
def Zu (M:Mo) (N:Mo) (i:Nat) (b:Bool):Sc:= .fin
def BJ (M:Mo) (N:Mo) (i:Nat) (b:Bool):aA:=
 (.test (decide ((↑i:Int)<(↑M.dw.length:Int)))
 (.must (aM (↑i:Int) M.dw.length&&true&&(isInt acu (av (ac6 aH M.dw) (aB i*3))&&(isInt acu (av (ac6 aH M.dw) (aB i*3+1))&&(isBool (av (ac6 aH M.dw) (aB i*3+1+1))&&true))&&(aM (↑i:Int) N.dw.length&&true&&(isInt acu (av (ac6 aH N.dw) (aB i*3))&&(isInt acu (av (ac6 aH N.dw) (aB i*3+1))&&(isBool (av (ac6 aH N.dw) (aB i*3+1+1))&&true))&&true)))&&true)
 (.test (!(fun r=>aq (av (ac6 aH M.dw) (aB i*3))==aq (av (ac6 aH N.dw) (aB i*3))&&r) ((fun r=>aq (av (ac6 aH M.dw) (aB i*3+1))==aq (av (ac6 aH N.dw) (aB i*3+1))&&r) ((fun r=>bg (av (ac6 aH M.dw) (aB i*3+1+1))==bg (av (ac6 aH N.dw) (aB i*3+1+1))&&r) true)))
 (.out (.ret (sB false) []))
 (.at (af ae env 22 3 [.mp 0 0,.mp 1 0,sI .i64 (sa.wrap ((↑i:Int)+1))] ([.pc M.aJ,.pc N.aJ]) 0 175))))
 (.at (af ae env 22 6 [.mp 0 0,.mp 1 0,sI .i64 0] ([.pc M.aJ,.pc N.aJ]) 0 175)))
theorem Eb (M:Mo) (N:Mo) (i:Nat) (b:Bool):grow ae env VZ 1000000 true (af ae env 22 3 ([AV.mp 0 0,AV.mp 1 0,sI sa (↑i:Int)]) ([aN.pc M.aJ,aN.pc N.aJ]) 0 175) (Zu M N i b) atEnd=BJ M N i b:=by kernel_rfl
def V0:bN:=aP aF aC [(22,9),(22,12)] [(22,0,10),(22,0,11)] [(22,0,11)]
def Zv (M:Mo) (N:Mo) (i:Nat) (b:Bool):Sc:= .fin
def BK (M:Mo) (N:Mo) (i:Nat) (b:Bool):aA:=
 (.test (decide ((↑i:Int)<(↑M.exs.length:Int)))
 (.must (aM (↑i:Int) M.exs.length&&true&&(isStr (av (ac6 bB M.exs) (aB i*3))&&(isInt sa (av (ac6 bB M.exs) (aB i*3+1))&&(isInt acu (av (ac6 bB M.exs) (aB i*3+1+1))&&true))&&(aM (↑i:Int) N.exs.length&&true&&(isStr (av (ac6 bB N.exs) (aB i*3))&&(isInt sa (av (ac6 bB N.exs) (aB i*3+1))&&(isInt acu (av (ac6 bB N.exs) (aB i*3+1+1))&&true))&&true)))&&true)
 (.test (!(fun r=>(bh (av (ac6 bB M.exs) (aB i*3))).data.toList==(bh (av (ac6 bB N.exs) (aB i*3))).data.toList&&r) ((fun r=>aq (av (ac6 bB M.exs) (aB i*3+1))==aq (av (ac6 bB N.exs) (aB i*3+1))&&r) ((fun r=>aq (av (ac6 bB M.exs) (aB i*3+1+1))==aq (av (ac6 bB N.exs) (aB i*3+1+1))&&r) true)))
 (.out (.ret (sB false) []))
 (.at (af ae env 22 9 [.mp 0 0,.mp 1 0,sI .i64 (sa.wrap ((↑i:Int)+1))] ([.pc M.aJ,.pc N.aJ]) 0 175))))
 (.at (af ae env 22 12 [.mp 0 0,.mp 1 0,sI .i64 0] ([.pc M.aJ,.pc N.aJ]) 0 175)))
theorem Ec (M:Mo) (N:Mo) (i:Nat) (b:Bool):grow ae env V0 1000000 true (af ae env 22 9 ([AV.mp 0 0,AV.mp 1 0,sI sa (↑i:Int)]) ([aN.pc M.aJ,aN.pc N.aJ]) 0 175) (Zv M N i b) atEnd=BK M N i b:=by kernel_rfl
def V1:bN:=aP aF aC [(22,12),(22,15)] [(22,0,13),(22,0,14)] [(22,0,14)]
def Zw (M:Mo) (N:Mo) (i:Nat) (b:Bool):Sc:=(.fork (.AS 22 24 (qwT M N i b 0) .fin) .fin)
def BL (M:Mo) (N:Mo) (i:Nat) (b:Bool):aA:=
 (.test (decide ((↑i:Int)<(↑M.els.length:Int)))
 (.call ⟨46,[.p (.ps (az (av (ac6 aW M.els) (aB i*2+0))) (aR (av (ac6 aW M.els) (aB i*2+0))) (an (av (ac6 aW M.els) (aB i*2+0)))),.p (.ps (az (av (ac6 aW N.els) (aB i*2+0))) (aR (av (ac6 aW N.els) (aB i*2+0))) (an (av (ac6 aW N.els) (aB i*2+0))))],[],sB true,[]⟩
 (.call ⟨47,[.p (.ps (az (av (ac6 aW M.els) (aB i*2+1))) (aR (av (ac6 aW M.els) (aB i*2+1))) (an (av (ac6 aW M.els) (aB i*2+1)))),.p (.ps (az (av (ac6 aW N.els) (aB i*2+1))) (aR (av (ac6 aW N.els) (aB i*2+1))) (an (av (ac6 aW N.els) (aB i*2+1))))],[],.p (.sc (.bool b)),[]⟩
 (.must (aM (↑i:Int) M.els.length&&true&&true&&(aQ (av (ac6 aW M.els) (aB i*2+0))&&true&&(aM (↑i:Int) N.els.length&&true&&true&&(aQ (av (ac6 aW N.els) (aB i*2+0))&&true&&(aM (↑i:Int) M.els.length&&true&&true&&(aQ (av (ac6 aW M.els) (aB i*2+1))&&true&&(aM (↑i:Int) N.els.length&&true&&true&&(aQ (av (ac6 aW N.els) (aB i*2+1))&&true&&true)))))))&&true)
 (.test (!b)
 (.out (.ret (sB false) []))
 (.at (af ae env 22 12 [.mp 0 0,.mp 1 0,sI .i64 (sa.wrap ((↑i:Int)+1))] ([.pc M.aJ,.pc N.aJ]) 0 175))))))
 (.at (af ae env 22 15 [.mp 0 0,.mp 1 0,sI .i64 0] ([.pc M.aJ,.pc N.aJ]) 0 175)))
theorem Ed (M:Mo) (N:Mo) (i:Nat) (b:Bool):grow ae env V1 1000000 true (af ae env 22 12 ([AV.mp 0 0,AV.mp 1 0,sI sa (↑i:Int)]) ([aN.pc M.aJ,aN.pc N.aJ]) 0 175) (Zw M N i b) atEnd=BL M N i b:=by kernel_rfl
def V2:bN:=aP aF aC [(22,15)] [(22,0,16),(22,0,17)] [(22,0,17)]
def Zx (M:Mo) (N:Mo) (i:Nat) (b:Bool):Sc:=(.fork (.AS 22 29 (qwT M N i b 0) .fin) .fin)
def BM (M:Mo) (N:Mo) (i:Nat) (b:Bool):aA:=
 (.test (decide ((↑i:Int)<(↑M.aY.length:Int)))
 (.call ⟨46,[.p (.ps (az (av (ac6 bq M.aY) (aB i*2+0))) (aR (av (ac6 bq M.aY) (aB i*2+0))) (an (av (ac6 bq M.aY) (aB i*2+0)))),.p (.ps (az (av (ac6 bq N.aY) (aB i*2+0))) (aR (av (ac6 bq N.aY) (aB i*2+0))) (an (av (ac6 bq N.aY) (aB i*2+0))))],[],sB true,[]⟩
 (.call ⟨8,[.p (.ps (az (av (ac6 bq M.aY) (aB i*2+1))) (aR (av (ac6 bq M.aY) (aB i*2+1))) (an (av (ac6 bq M.aY) (aB i*2+1)))),.p (.ps (az (av (ac6 bq N.aY) (aB i*2+1))) (aR (av (ac6 bq N.aY) (aB i*2+1))) (an (av (ac6 bq N.aY) (aB i*2+1))))],[],.p (.sc (.bool b)),[]⟩
 (.must (aM (↑i:Int) M.aY.length&&true&&true&&(aQ (av (ac6 bq M.aY) (aB i*2+0))&&true&&(aM (↑i:Int) N.aY.length&&true&&true&&(aQ (av (ac6 bq N.aY) (aB i*2+0))&&true&&(aM (↑i:Int) M.aY.length&&true&&true&&(aQ (av (ac6 bq M.aY) (aB i*2+1))&&true&&(aM (↑i:Int) N.aY.length&&true&&true&&(aQ (av (ac6 bq N.aY) (aB i*2+1))&&true&&true)))))))&&true)
 (.test (!b)
 (.out (.ret (sB false) []))
 (.at (af ae env 22 15 [.mp 0 0,.mp 1 0,sI .i64 (sa.wrap ((↑i:Int)+1))] ([.pc M.aJ,.pc N.aJ]) 0 175))))))
 A2)
theorem Ee (M:Mo) (N:Mo) (i:Nat) (b:Bool):grow ae env V2 1000000 true (af ae env 22 15 ([AV.mp 0 0,AV.mp 1 0,sI sa (↑i:Int)]) ([aN.pc M.aJ,aN.pc N.aJ]) 0 175) (Zx M N i b) atEnd=BM M N i b:=by kernel_rfl
def V3:bN:=aP aF aC [(22,12),(22,15)] [(22,0,13)] [(22,0,14)]
def Zy (M:Mo) (N:Mo) (i:Nat) (b:Bool):Sc:=(.fork (.AS 22 24 (qwF M N i b 0) .fin) .fin)
def Hq (M:Mo) (N:Mo) (i:Nat) (b:Bool):aA:=
 (.test (decide ((↑i:Int)<(↑M.els.length:Int)))
 (.call ⟨46,[.p (.ps (az (av (ac6 aW M.els) (aB i*2+0))) (aR (av (ac6 aW M.els) (aB i*2+0))) (an (av (ac6 aW M.els) (aB i*2+0)))),.p (.ps (az (av (ac6 aW N.els) (aB i*2+0))) (aR (av (ac6 aW N.els) (aB i*2+0))) (an (av (ac6 aW N.els) (aB i*2+0))))],[],sB false,[]⟩
 (.must (aM (↑i:Int) M.els.length&&true&&true&&(aQ (av (ac6 aW M.els) (aB i*2+0))&&true&&(aM (↑i:Int) N.els.length&&true&&true&&(aQ (av (ac6 aW N.els) (aB i*2+0))&&true&&true)))&&true)
 (.out (.ret (sB false) []))))
 (.at (af ae env 22 15 [.mp 0 0,.mp 1 0,sI .i64 0] ([.pc M.aJ,.pc N.aJ]) 0 175)))
theorem NG (M:Mo) (N:Mo) (i:Nat) (b:Bool):grow ae env V3 1000000 true (af ae env 22 12 ([AV.mp 0 0,AV.mp 1 0,sI sa (↑i:Int)]) ([aN.pc M.aJ,aN.pc N.aJ]) 0 175) (Zy M N i b) atEnd=Hq M N i b:=by kernel_rfl
def V4:bN:=aP aF aC [(22,15)] [(22,0,16)] [(22,0,17)]
def Zz (M:Mo) (N:Mo) (i:Nat) (b:Bool):Sc:=(.fork (.AS 22 29 (qwF M N i b 0) .fin) .fin)
def Hr (M:Mo) (N:Mo) (i:Nat) (b:Bool):aA:=
 (.test (decide ((↑i:Int)<(↑M.aY.length:Int)))
 (.call ⟨46,[.p (.ps (az (av (ac6 bq M.aY) (aB i*2+0))) (aR (av (ac6 bq M.aY) (aB i*2+0))) (an (av (ac6 bq M.aY) (aB i*2+0)))),.p (.ps (az (av (ac6 bq N.aY) (aB i*2+0))) (aR (av (ac6 bq N.aY) (aB i*2+0))) (an (av (ac6 bq N.aY) (aB i*2+0))))],[],sB false,[]⟩
 (.must (aM (↑i:Int) M.aY.length&&true&&true&&(aQ (av (ac6 bq M.aY) (aB i*2+0))&&true&&(aM (↑i:Int) N.aY.length&&true&&true&&(aQ (av (ac6 bq N.aY) (aB i*2+0))&&true&&true)))&&true)
 (.out (.ret (sB false) []))))
 A2)
theorem NH (M:Mo) (N:Mo) (i:Nat) (b:Bool):grow ae env V4 1000000 true (af ae env 22 15 ([AV.mp 0 0,AV.mp 1 0,sI sa (↑i:Int)]) ([aN.pc M.aJ,aN.pc N.aJ]) 0 175) (Zz M N i b) atEnd=Hr M N i b:=by kernel_rfl
def V5:bN:=aP aF aC [(9,7)] [(9,0,8),(9,0,9)] [(9,0,9)]
def ZA (M:Mo) (N:Mo) (i:Nat) (b:Bool):Sc:=(.fork (.AS 9 16 (qwQ M N i b 0) .fin) (.ans 22 (.p (.sc (.bool b))) ([]) .fin))
def BN (M:Mo) (N:Mo) (i:Nat) (b:Bool):aA:=
 (.test (decide ((↑i:Int)<(↑M.fns.length:Int)))
 (.call ⟨21,[.agg [sI .i64 (aq (av (ac6 aO M.fns) (aB i*3+1))),.p (.ps (az (av (ac6 aO M.fns) (aB i*3+1+1))) (aR (av (ac6 aO M.fns) (aB i*3+1+1))) (an (av (ac6 aO M.fns) (aB i*3+1+1))))],.agg [sI .i64 (aq (av (ac6 aO N.fns) (aB i*3+1))),.p (.ps (az (av (ac6 aO N.fns) (aB i*3+1+1))) (aR (av (ac6 aO N.fns) (aB i*3+1+1))) (an (av (ac6 aO N.fns) (aB i*3+1+1))))]],[],.p (.sc (.bool b)),[]⟩
 (.must (aM (↑i:Int) M.fns.length&&true&&true&&(isInt sa (av (ac6 aO M.fns) (aB i*3+0))&&true&&(aM (↑i:Int) N.fns.length&&true&&true&&(isInt sa (av (ac6 aO N.fns) (aB i*3+0))&&true&&(gG (.p (.sc (.bool (aq (av (ac6 aO M.fns) (aB i*3+0)) != aq (av (ac6 aO N.fns) (aB i*3+0)))))) (sB false)&&(aM (↑i:Int) M.fns.length&&true&&true&&(isInt sa (av (ac6 aO M.fns) (aB i*3+1))&&(aQ (av (ac6 aO M.fns) (aB i*3+1+1))&&true)&&true&&(aM (↑i:Int) N.fns.length&&true&&true&&(isInt sa (av (ac6 aO N.fns) (aB i*3+1))&&(aQ (av (ac6 aO N.fns) (aB i*3+1+1))&&true)&&true&&true))))))))&&true)
 (.test (!b)
 (.out (.ret (sB false) []))
 (.at (af ae pE 9 7 [.mp 0 0,.mp 1 0,sI .i64 (sa.wrap ((↑i:Int)+1))] ([.pc M.aJ,.pc N.aJ]) 0 176)))))
 (.call ⟨22,[.agg (acC AV.p M.aJ),.agg (acC AV.p N.aJ)],[],.p (.sc (.bool b)),[]⟩
 (.out (.ret (.p (.sc (.bool b))) []))))
theorem Ef (M:Mo) (N:Mo) (i:Nat) (b:Bool):grow ae pE V5 1000000 true (af ae pE 9 7 ([AV.mp 0 0,AV.mp 1 0,sI sa (↑i:Int)]) ([aN.pc M.aJ,aN.pc N.aJ]) 0 176) (ZA M N i b) atEnd=BN M N i b:=by kernel_rfl
def V6:bN:=aP aF aC [(22,6),(22,9)] [(22,0,7),(22,0,8)] [(22,0,8)]
def ZB (M:Mo) (N:Mo) (i:Nat) (b:Bool):Sc:=(.fork (.AS 22 14 (qwQ M N i b 0) .fin) .fin)
def BO (M:Mo) (N:Mo) (i:Nat) (b:Bool):aA:=
 (.test (decide ((↑i:Int)<(↑M.gls.length:Int)))
 (.call ⟨46,[.p (.ps (az (av (ac6 bP M.gls) (aB i*2+1))) (aR (av (ac6 bP M.gls) (aB i*2+1))) (an (av (ac6 bP M.gls) (aB i*2+1)))),.p (.ps (az (av (ac6 bP N.gls) (aB i*2+1))) (aR (av (ac6 bP N.gls) (aB i*2+1))) (an (av (ac6 bP N.gls) (aB i*2+1))))],[],.p (.sc (.bool b)),[]⟩
 (.must (aM (↑i:Int) M.gls.length&&true&&true&&(isBool (av (ac6 bP M.gls) (aB i*2+0))&&true&&(aM (↑i:Int) N.gls.length&&true&&true&&(isBool (av (ac6 bP N.gls) (aB i*2+0))&&true&&(gG (.p (.sc (.bool !bg (av (ac6 bP M.gls) (aB i*2+0))==bg (av (ac6 bP N.gls) (aB i*2+0))))) (sB false)&&(aM (↑i:Int) M.gls.length&&true&&true&&(aQ (av (ac6 bP M.gls) (aB i*2+1))&&true&&(aM (↑i:Int) N.gls.length&&true&&true&&(aQ (av (ac6 bP N.gls) (aB i*2+1))&&true&&true))))))))&&true)
 (.test (!b)
 (.out (.ret (sB false) []))
 (.at (af ae pE 22 6 [.mp 0 0,.mp 1 0,sI .i64 (sa.wrap ((↑i:Int)+1))] ([.pc M.aJ,.pc N.aJ]) 0 175)))))
 (.at (af ae pE 22 9 [.mp 0 0,.mp 1 0,sI .i64 0] ([.pc M.aJ,.pc N.aJ]) 0 175)))
theorem Eg (M:Mo) (N:Mo) (i:Nat) (b:Bool):grow ae pE V6 1000000 true (af ae pE 22 6 ([AV.mp 0 0,AV.mp 1 0,sI sa (↑i:Int)]) ([aN.pc M.aJ,aN.pc N.aJ]) 0 175) (ZB M N i b) atEnd=BO M N i b:=by kernel_rfl
def V7:bN:=aP aF aC [(9,7)] [(9,0,8)] [(9,0,9)]
def ZC (M:Mo) (N:Mo) (i:Nat) (b:Bool):Sc:=(.fork .fin (.ans 22 (.p (.sc (.bool b))) ([]) .fin))
def Hs (M:Mo) (N:Mo) (i:Nat) (b:Bool):aA:=
 (.test (decide ((↑i:Int)<(↑M.fns.length:Int)))
 (.must (aM (↑i:Int) M.fns.length&&true&&true&&(isInt sa (av (ac6 aO M.fns) (aB i*3+0))&&true&&(aM (↑i:Int) N.fns.length&&true&&true&&(isInt sa (av (ac6 aO N.fns) (aB i*3+0))&&true&&(gG (.p (.sc (.bool (aq (av (ac6 aO M.fns) (aB i*3+0)) != aq (av (ac6 aO N.fns) (aB i*3+0)))))) (sB true)&&true))))&&true)
 (.out (.ret (sB false) [])))
 (.call ⟨22,[.agg (acC AV.p M.aJ),.agg (acC AV.p N.aJ)],[],.p (.sc (.bool b)),[]⟩
 (.out (.ret (.p (.sc (.bool b))) []))))
theorem NI (M:Mo) (N:Mo) (i:Nat) (b:Bool):grow ae BB V7 1000000 true (af ae BB 9 7 ([AV.mp 0 0,AV.mp 1 0,sI sa (↑i:Int)]) ([aN.pc M.aJ,aN.pc N.aJ]) 0 176) (ZC M N i b) atEnd=Hs M N i b:=by kernel_rfl
def V8:bN:=aP aF aC [(22,6),(22,9)] [(22,0,7)] [(22,0,8)]
def ZD (M:Mo) (N:Mo) (i:Nat) (b:Bool):Sc:= .fin
def Ht (M:Mo) (N:Mo) (i:Nat) (b:Bool):aA:=
 (.test (decide ((↑i:Int)<(↑M.gls.length:Int)))
 (.must (aM (↑i:Int) M.gls.length&&true&&true&&(isBool (av (ac6 bP M.gls) (aB i*2+0))&&true&&(aM (↑i:Int) N.gls.length&&true&&true&&(isBool (av (ac6 bP N.gls) (aB i*2+0))&&true&&(gG (.p (.sc (.bool !bg (av (ac6 bP M.gls) (aB i*2+0))==bg (av (ac6 bP N.gls) (aB i*2+0))))) (sB true)&&true))))&&true)
 (.out (.ret (sB false) [])))
 (.at (af ae BB 22 9 [.mp 0 0,.mp 1 0,sI .i64 0] ([.pc M.aJ,.pc N.aJ]) 0 175)))
theorem NJ (M:Mo) (N:Mo) (i:Nat) (b:Bool):grow ae BB V8 1000000 true (af ae BB 22 6 ([AV.mp 0 0,AV.mp 1 0,sI sa (↑i:Int)]) ([aN.pc M.aJ,aN.pc N.aJ]) 0 175) (ZD M N i b) atEnd=Ht M N i b:=by kernel_rfl
theorem _root_.Go.Am.dA.env {P:Program} {E E':Env} (he:E.dS=E'.dS) {g:Gh} {c:cg} {fr:Frame} {w:World}:dA P E g c fr w→dA P E' g c fr w:=by
 have key : ∀{st:St} {a:Act},cA E g st a w→cA E' g st a w:=fun h=>⟨h.tm,h.nt,h.rel,h.fix,fun i cs hi=>h.dS i cs (by rw[he];exact hi)⟩
 unfold dA
 split
 · exact id
 · exact id
 · rintro ⟨b,a,t,cv,h1,h2,h3,h4,h5,h6⟩
   exact⟨b,a,t,cv,h1,h2,h3,h4,key h5,h6⟩
 · rintro ⟨b,a,t,h1,h2,h3,h4,h5,h6,h7⟩
   exact⟨b,a,t,h1,h2,h3,h4,h5,h6,key h7⟩
 · rintro ⟨b,a,h1,h2,h3,h4,h5,h6⟩
   exact⟨b,a,h1,h2,h3,h4,key h5,h6⟩
theorem _root_.Go.Am.bD.env {P:Program} {E E':Env} (he:E.dS=E'.dS) {c:cg} {o:Out} (h:bD P E c o):bD P E' c o:=
 fun g fr w cs hr=>h g fr w cs (dA.env he.symm hr)
theorem xk {c:cg} {o:Out} (h:bD ae env c o):bD ae pE c o:=Go.Am.bD.env (E:=env) (E':=pE) rfl h
theorem qJ {c:cg} {o:Out} (h:bD ae pE c o):bD ae env c o:=Go.Am.bD.env (E:=pE) (E':=env) rfl h
theorem Eh {c:cg} {o:Out} (h:bD ae BB c o):bD ae env c o:=Go.Am.bD.env (E:=BB) (E':=env) rfl h
theorem au.toW {f:FuncId} {args:List AV} {m m':Mem} {v:AV} (h:au ae env f args m v m'):au ae pE f args m v m':=h.env fun _ _ q=>q
def qC (f t nt:Nat) (M N:Mo) (i:Nat):cg:=af ae env f t [.mp 0 0,.mp 1 0,sI .i64 i] [.pc M.aJ,.pc N.aJ] 0 nt
def Ep (c:cg) (p:Prop):Prop:=(p→bD ae env c (.ret (sB true) []))∧(¬p→bD ae env c (.ret (sB false) []))
theorem gU {α:Type} {l m:List α} (hl:l.length=m.length) {D:Nat→cg} {p:Prop}
  (node : ∀(o:Out) (i:Nat) (x y:α),l[i]? = some x→m[i]? = some y→(x=y→bD ae env (D (i+1)) o)→(x≠y→Out.ret (sB false) []=o)→bD ae env (D i) o)
  (fin:Ep (D l.length) p):Ep (D 0) (l=m∧p):=by
 have same : ∀o:Out,l=m→bD ae env (D l.length) o→bD ae env (D 0) o:=by
  rintro o rfl hf
  have h : ∀r i:Nat,i+r=l.length→bD ae env (D i) o:=by
   intro r
   induction r with
   |zero=>
    intro i hi
    obtain rfl:i=l.length:=by omega
    exact hf
   |succ r ih=>
    intro i hi
    have h1:i<l.length:=by omega
    exact node o i l[i] l[i] (de h1) (de h1) (fun _=>ih (i+1) (by omega)) fun q=>absurd rfl q
  exact h l.length 0 (by omega)
 refine⟨fun h=>same _ h.1 (fin.1 h.2),fun h=> ?_⟩
 by_cases e:l=m
 · exact same _ e (fin.2 fun q=>h ⟨e,q⟩)
 · have h : ∀r i:Nat,i+r=l.length→l.take i=m.take i→bD ae env (D i) (.ret (sB false) []):=by
    intro r
    induction r with
    |zero=>
     intro i hi ht
     rw[eh (by omega),eh (by omega)] at ht
     exact absurd ht e
    |succ r ih=>
     intro i hi ht
     have h1:i<l.length:=by omega
     have h2:i<m.length:=by omega
     refine node _ i l[i] m[i] (de h1) (de h2) (fun q=>ih (i+1) (by omega) ?_) fun _=>rfl
     rw[adE,adE,ht,de h1,de h2,q]
   exact h l.length 0 (by omega) (by simp)
theorem bytes_eq {a b:ByteArray} (h:a.data.toList=b.data.toList):a=b:=by
 obtain⟨⟨a⟩⟩:=a
 obtain⟨⟨b⟩⟩:=b
 simpa using h
theorem gV {l m:Nat} (q:((l:Int) != (m:Int))=false):l=m:=by
 have h:(l:Int)=m:=by simpa using q
 omega
theorem NK (l m:List Int) (hl:l.length≤1000000) : ∃b,au ae env 47 [.p (.ps l.length 1 (bU .u32 l)),.p (.ps m.length 1 (bU .u32 m))] [] (sB b) []∧(b=true↔l=m):=by
 have key:l.length=m.length→Ep (af ae env 47 1 [.p (.ps l.length 1 (bU .u32 l)),.p (.ps m.length 1 (bU .u32 m)),sI .i64 ((0:Nat):Int)] [] 0 26) (l=m∧True):=fun hlen=>by
  refine gU (l:=l) (m:=m) hlen (D:=fun i=>af ae env 47 1 [.p (.ps l.length 1 (bU .u32 l)),.p (.ps m.length 1 (bU .u32 m)),sI .i64 i] [] 0 26) (fun o i x y hx hy h h'=> ?_) ⟨fun _=> ?_,fun q=>absurd trivial q⟩
  · have hi:i<l.length:=(ee.1 hx).1
    have hj:i<m.length:=(ee.1 hy).1
    have c0:(bU .u32 l).getD (i*1) .bk = .sc (.int .u32 x):=by rw[ac8,nT .u32 l i hi,di,hx];rfl
    have d0:(bU .u32 m).getD (i*1) .bk = .sc (.int .u32 y):=by rw[ac8,nT .u32 m i hj,di,hy];rfl
    have w:sa.wrap ((i:Int)+1)=((i+1:Nat):Int):=by rw[bA (by omega) (by omega)];rfl
    have hd:decide ((i:Int)<(l.length:Int))=true:=decide_eq_true (by omega)
    have hin:aM (i:Int) l.length=true:=by simp only[aM,dp,decide_eq_true_eq];omega
    have jf:aM (i:Int) m.length=true:=by simp only[aM,dp,decide_eq_true_eq];omega
    refine ah aI (z8 l.length m.length i (bU .u32 l) (bU .u32 m)) ?_
    simp only[xh,bu,aA.ok,isInt,aq,acN,c0,d0,hd,hin,jf,w,ac7]
    exact⟨fun _=>⟨(by first | rfl | trivial),fun q=>h' (by rintro rfl;simp at q),fun q=>h (by simpa using q)⟩,fun q=>(by cases q)⟩
  · have hd:decide ((l.length:Int)<(l.length:Int))=false:=decide_eq_false (by omega)
    refine ah aI (z8 l.length m.length l.length (bU .u32 l) (bU .u32 m)) ?_
    simp only[xh,bu,aA.ok,hd]
    exact⟨fun q=>(by cases q),fun _=>(by first | exact ads | rfl)⟩
 by_cases e:l=m
 · refine⟨true,aa aI (D3 l.length m.length (bU .u32 l) (bU .u32 m)) ?_,by simp[e]⟩
   simp only[BC,aA.ok]
   exact⟨fun q=>(by rw[e] at q;simp at q),fun _=>(key (by rw[e])).1 ⟨e,trivial⟩⟩
 · refine⟨false,aa aI (D3 l.length m.length (bU .u32 l) (bU .u32 m)) ?_,by simp[e]⟩
   simp only[BC,aA.ok]
   exact⟨fun q=>(by first | exact ads | rfl),fun q=>(key (gV q)).2 fun k=>e k.1⟩
theorem sj : ∀(K:Nat) (l m:List Ins),cZ l≤K→cZ l≤1000000 → ∃b,au ae env 46 [aL l,aL m] [] (sB b) []∧(b=true↔l=m)
 |K,l,m,hK,hc=>by
  have IH : ∀x∈l,∀y∈m,(∃b,au ae env 46 [aL x.l,aL y.l] [] (sB b) []∧(b=true↔x.l=y.l))∧(∃b,au ae env 46 [aL x.e,aL y.e] [] (sB b) []∧(b=true↔x.e=y.e)):=by
   intro x hx y hy
   have hcx:=kV hx
   obtain⟨op,rs,a,b,nn,tags,ll,le⟩:=x
   simp only[kD] at hcx
   match K,hK with
   |0,hK=>omega
   |K+1,hK=>exact⟨sj K ll y.l (by omega) (by omega),sj K le y.e (by omega) (by omega)⟩
  have RS:=nr l
  have key:l.length=m.length→Ep (af ae env 46 1 [aL l,aL m,sI .i64 ((0:Nat):Int)] [] 0 84) (l=m∧True):=fun hlen=>by
   refine gU (l:=l) (m:=m) hlen (D:=fun i=>af ae env 46 1 [aL l,aL m,sI .i64 i] [] 0 84) (fun o i x y hx hy h h'=> ?_) ⟨fun _=> ?_,fun q=>absurd trivial q⟩
   · have hi:i<l.length:=(ee.1 hx).1
     have hj:i<m.length:=(ee.1 hy).1
     have hcx:=kV (oi hx)
     obtain⟨⟨b2,k2,e2⟩,⟨b3,k3,e3⟩⟩:=IH x (oi hx) y (oi hy)
     obtain⟨op,rs,a,b,nn,tags,ll,le⟩:=x
     obtain⟨op',rs',a',b',Ny,tags',JO,le'⟩:=y
     obtain⟨c0,c1,c2,c3,c4,c5,c6,c7⟩:=qp hx
     obtain⟨d0,d1,d2,d3,d4,d5,d6,d7⟩:=qp hy
     simp only[kD] at hcx
     obtain⟨b1,k1,e1⟩:=NK tags tags' (by omega)
     have w:sa.wrap ((i:Int)+1)=((i+1:Nat):Int):=by rw[bA (by omega) (by omega)];rfl
     have hd:decide ((i:Int)<(l.length:Int))=true:=decide_eq_true (by omega)
     have hin:aM (i:Int) l.length=true:=by simp only[aM,dp,decide_eq_true_eq];omega
     have jf:aM (i:Int) m.length=true:=by simp only[aM,dp,decide_eq_true_eq];omega
     have n1:(bif bj 1 1 then b2 else b3)=b2:=rfl
     have n2:(bif bj 2 1 then b2 else b3)=b3:=rfl
     refine ah aI (Aa l m i b1 b2 b3) ?_
     simp only[xj,ez,bu,aA.ok,Nat.add_assoc,Nat.reduceAdd,c0,c1,c2,c3,c4,c5,c6,c7,d0,d1,d2,d3,d4,d5,d6,d7,isInt,aQ,aq,az,aR,an,acN,hd,hin,jf,w,n1,n2,ac7,ade]
     refine⟨fun _=>⟨(by first | rfl | trivial),fun q=>h' ?_,fun q0=>⟨fun q=>h' ?_,fun q1=>⟨fun q=>h' ?_,fun q2=>⟨fun q=>h' ?_,fun q3=>⟨fun q=>h' ?_,fun q4=>⟨k1,fun q=>h' ?_,fun q5=>⟨k2,fun q=>h' ?_,fun q6=>⟨k3,fun q=>h' ?_,fun q7=>h ?_⟩⟩⟩⟩⟩⟩⟩⟩,fun q=>(by cases q)⟩
     · intro e;cases e;simp at q
     · intro e;cases e;simp at q
     · intro e;cases e;simp at q
     · intro e;cases e;simp at q
     · intro e;cases e;simp at q
     · intro e;cases e;rw[e1.2 rfl] at q;cases q
     · intro e;cases e;rw[e2.2 rfl] at q;cases q
     · intro e;cases e;rw[e3.2 rfl] at q;cases q
     · have g0:op=op':=by simpa using q0
       have g1:rs=rs':=by simpa using q1
       have g2:a=a':=by simpa using q2
       have g3:b=b':=by simpa using q3
       have g4:nn=Ny:=by simpa using q4
       have g5:=e1.1 (by simpa using q5)
       have g6:ll=JO:=e2.1 (by simpa using q6)
       have g7:le=le':=e3.1 (by simpa using q7)
       rw[g0,g1,g2,g3,g4,g5,g6,g7]
   · have hd:decide ((l.length:Int)<(l.length:Int))=false:=decide_eq_false (by omega)
     refine ah aI (Aa l m l.length false false false) ?_
     simp only[xj,ez,bu,aA.ok,hd]
     exact⟨fun q=>(by cases q),fun _=>(by first | exact ads | rfl)⟩
  by_cases e:l=m
  · refine⟨true,aa aI (D4 l m) ?_,by simp[e]⟩
    simp only[BD,aA.ok]
    exact⟨fun q=>(by rw[e] at q;simp at q),fun _=>(key (by rw[e])).1 ⟨e,trivial⟩⟩
  · refine⟨false,aa aI (D4 l m) ?_,by simp[e]⟩
    simp only[BD,aA.ok]
    exact⟨fun q=>(by first | exact ads | rfl),fun q=>(key (gV q)).2 fun k=>e k.1⟩
theorem V9 (lo lo':Int) (l m:List Ins) (hc:cZ l≤1000000) : ∃b,au ae env 21 [.agg [sI .i64 lo,aL l],.agg [sI .i64 lo',aL m]] [] (sB b) []∧(b=true↔lo=lo'∧l=m):=by
 obtain⟨b,k,e⟩:=sj _ l m (dd _) hc
 by_cases h:lo=lo'
 · refine⟨b,aa aI (D5 lo lo' l m b) ?_,by simp[h,e]⟩
   simp only[BE,aA.ok]
   exact⟨fun _=>⟨k,(by first | exact ads | rfl)⟩,fun q=>(by simp[h] at q)⟩
 · refine⟨false,aa aI (D5 lo lo' l m b) ?_,by simp[h]⟩
   simp only[BE,aA.ok]
   exact⟨fun q=>(by simp[h] at q),fun _=>(by first | exact ads | rfl)⟩
theorem Ab : ∀l:List Int,(bU .u8 l).all isByte=true
 |[]=>rfl
 |x::r=>by
  have h:=Ab r
  simp only[bU,uv,List.all_cons,isByte,ade] at h ⊢
  exact h
theorem NL (l m:List Int) (hl : ∀z∈l,0≤z∧z<256) (hm : ∀z∈m,0≤z∧z<256) : ∃b,au ae env 8 [.p (.ps l.length 1 (bU .u8 l)),.p (.ps m.length 1 (bU .u8 m))] [] (sB b) []∧(b=true↔l=m):=by
 have inj : ∀{l m:List Int},(∀z∈l,0≤z∧z<256)→(∀z∈m,0≤z∧z<256)→(bU .u8 l).map Am.byteOf=(bU .u8 m).map Am.byteOf→l=m:=by
  intro l
  induction l with
  |nil=>intro m _ _ h;cases m with
   |nil=>rfl
   |cons=>simp[bU] at h
  |cons x l ih=>
   intro m hx hy h
   cases m with
   |nil=>simp[bU] at h
   |cons y m=>
    simp only[bU,uv,List.cons.injEq] at h
    have a:=hx x (.head _)
    have b:=hy y (.head _)
    have e:x=y:=by
     have:=congrArg UInt8.toNat h.1
     simp only[Am.byteOf] at this
     simp at this
     omega
    rw[e,ih (fun z hz=>hx z (.tail _ hz)) (fun z hz=>hy z (.tail _ hz)) (by simpa[bU] using h.2)]
 refine⟨((acP (acC Am.byteOf (bU .u8 l)).toArray).data.toList==(acP (acC Am.byteOf (bU .u8 m)).toArray).data.toList),aa aI (NF l.length m.length (bU .u8 l) (bU .u8 m)) ?_,?_⟩
 · simp only[Hp,aA.ok,Ab,ac7]
   exact⟨trivial,trivial,trivial⟩
 · constructor
   · intro h
     exact inj hl hm (by simpa using h)
   · rintro rfl
     simp
theorem Wa (M N:Mo) (hl:M.tys.length≤1000000) (o:Out) (i:Nat) (x y:Ty) (hx:M.tys[i]? = some x) (hy:N.tys[i]? = some y) (h:x=y→bD ae env (qC 9 1 176 M N (i+1)) o) (h':x≠y→Out.ret (sB false) []=o):bD ae env (qC 9 1 176 M N i) o:=by
 have hi:i<M.tys.length:=(ee.1 hx).1
 have hj:i<N.tys.length:=(ee.1 hy).1
 have c:=aU (z:=2) (enc:=cK) (fun _=>rfl) hx
 have c':=aU (z:=2) (enc:=cK) (fun _=>rfl) hy
 have yf:(M.tys.flatMap cK).getD (i*2) .bk = .sc (.int .i64 x.p):=c 0 (by decide)
 have yg:(N.tys.flatMap cK).getD (i*2) .bk = .sc (.int .i64 y.p):=c' 0 (by decide)
 have yh:(M.tys.flatMap cK).getD (i*2+0) .bk = .sc (.int .i64 x.p):=c 0 (by decide)
 have yj:(N.tys.flatMap cK).getD (i*2+0) .bk = .sc (.int .i64 y.p):=c' 0 (by decide)
 have yl:(M.tys.flatMap cK).getD (i*2+1) .bk = .sc (.int .i64 x.r):=c 1 (by decide)
 have ym:(N.tys.flatMap cK).getD (i*2+1) .bk = .sc (.int .i64 y.r):=c' 1 (by decide)
 have w:sa.wrap ((i:Int)+1)=((i+1:Nat):Int):=by rw[bA (by omega) (by omega)];rfl
 have ht:decide ((i:Int)<(M.tys.length:Int))=true:=decide_eq_true (by omega)
 have hin:aM (i:Int) M.tys.length=true:=by simp only[aM,dp,decide_eq_true_eq];omega
 have jf:aM (i:Int) N.tys.length=true:=by simp only[aM,dp,decide_eq_true_eq];omega
 unfold qC at *
 refine ah aI (D8 M N i false) ?_
 simp only[BG,bu,aA.ok,isStr,isInt,aQ,isBool,bh,aq,bg,az,aR,an,acN,ac7,ade,gG,kK,BX,yf,yg,yh,yj,yl,ym,ht,hin,jf,w]
 refine⟨fun _=>⟨(by first | rfl | trivial | (simp;done)),fun q=>h' ?_,fun q=>h ?_⟩,fun q=>(by cases q)⟩
 · rintro rfl;simp at q
 · obtain⟨p0,p1⟩:=x
   obtain⟨r0,r1⟩:=y
   simp only[adF,dp,beq_iff_eq] at q
   simp only[Ty.mk.injEq]
   first | exact q | exact⟨bytes_eq q.1,q.2⟩ | exact⟨bytes_eq q.1,bytes_eq q.2.1,q.2.2⟩ | (simp_all;done)
theorem Q5 (M N:Mo) (o:Out) (h:bD ae env (qC 9 4 176 M N 0) o):bD ae env (qC 9 1 176 M N M.tys.length) o:=by
 have ht:decide ((M.tys.length:Int)<(M.tys.length:Int))=false:=decide_eq_false (by omega)
 unfold qC at *
 refine ah aI (D8 M N M.tys.length false) ?_
 simp only[BG,bu,aA.ok,ht]
 exact⟨fun q=>(by cases q),fun _=>h⟩
theorem Wb (M N:Mo) (hl:M.aZ.length≤1000000) (o:Out) (i:Nat) (x y:Im) (hx:M.aZ[i]? = some x) (hy:N.aZ[i]? = some y) (h:x=y→bD ae env (qC 9 4 176 M N (i+1)) o) (h':x≠y→Out.ret (sB false) []=o):bD ae env (qC 9 4 176 M N i) o:=by
 have hi:i<M.aZ.length:=(ee.1 hx).1
 have hj:i<N.aZ.length:=(ee.1 hy).1
 have c:=aU (z:=3) (enc:=bp) (fun _=>rfl) hx
 have c':=aU (z:=3) (enc:=bp) (fun _=>rfl) hy
 have yf:(M.aZ.flatMap bp).getD (i*3) .bk = .sc (.string x.mo):=c 0 (by decide)
 have yg:(N.aZ.flatMap bp).getD (i*3) .bk = .sc (.string y.mo):=c' 0 (by decide)
 have yh:(M.aZ.flatMap bp).getD (i*3+0) .bk = .sc (.string x.mo):=c 0 (by decide)
 have yj:(N.aZ.flatMap bp).getD (i*3+0) .bk = .sc (.string y.mo):=c' 0 (by decide)
 have yl:(M.aZ.flatMap bp).getD (i*3+1) .bk = .sc (.string x.nm):=c 1 (by decide)
 have ym:(N.aZ.flatMap bp).getD (i*3+1) .bk = .sc (.string y.nm):=c' 1 (by decide)
 have NX:(M.aZ.flatMap bp).getD (i*3+1+1) .bk = .sc (.int .i64 x.ty):=c 2 (by decide)
 have NY:(N.aZ.flatMap bp).getD (i*3+1+1) .bk = .sc (.int .i64 y.ty):=c' 2 (by decide)
 have NZ:(M.aZ.flatMap bp).getD (i*3+2) .bk = .sc (.int .i64 x.ty):=c 2 (by decide)
 have N0:(N.aZ.flatMap bp).getD (i*3+2) .bk = .sc (.int .i64 y.ty):=c' 2 (by decide)
 have w:sa.wrap ((i:Int)+1)=((i+1:Nat):Int):=by rw[bA (by omega) (by omega)];rfl
 have ht:decide ((i:Int)<(M.aZ.length:Int))=true:=decide_eq_true (by omega)
 have hin:aM (i:Int) M.aZ.length=true:=by simp only[aM,dp,decide_eq_true_eq];omega
 have jf:aM (i:Int) N.aZ.length=true:=by simp only[aM,dp,decide_eq_true_eq];omega
 unfold qC at *
 refine ah aI (D9 M N i false) ?_
 simp only[BH,bu,aA.ok,isStr,isInt,aQ,isBool,bh,aq,bg,az,aR,an,acN,ac7,ade,gG,kK,BX,yf,yg,yh,yj,yl,ym,NX,NY,NZ,N0,ht,hin,jf,w]
 refine⟨fun _=>⟨(by first | rfl | trivial | (simp;done)),fun q=>h' ?_,fun q=>h ?_⟩,fun q=>(by cases q)⟩
 · rintro rfl;simp at q
 · obtain⟨p0,p1,p2⟩:=x
   obtain⟨r0,r1,r2⟩:=y
   simp only[adF,dp,beq_iff_eq] at q
   simp only[Im.mk.injEq]
   first | exact q | exact⟨bytes_eq q.1,q.2⟩ | exact⟨bytes_eq q.1,bytes_eq q.2.1,q.2.2⟩ | (simp_all;done)
theorem Q6 (M N:Mo) (o:Out) (h:bD ae env (qC 9 7 176 M N 0) o):bD ae env (qC 9 4 176 M N M.aZ.length) o:=by
 have ht:decide ((M.aZ.length:Int)<(M.aZ.length:Int))=false:=decide_eq_false (by omega)
 unfold qC at *
 refine ah aI (D9 M N M.aZ.length false) ?_
 simp only[BH,bu,aA.ok,ht]
 exact⟨fun q=>(by cases q),fun _=>h⟩
theorem sk (vs:List AV) (m:Mem):af ae pE 9 7 vs m 0 176=af ae env 9 7 vs m 0 176:=by kernel_rfl
theorem Ju (vs:List AV) (m:Mem):af ae BB 9 7 vs m 0 176=af ae env 9 7 vs m 0 176:=by kernel_rfl
theorem Wc (M N:Mo) (hl:M.fns.length≤1000000) (o:Out) (i:Nat) (x y:Fu) (hx:M.fns[i]? = some x) (hy:N.fns[i]? = some y) (b:Bool) (hd:au ae env 21 [.agg [sI .i64 x.lo,aL x.l],.agg [sI .i64 y.lo,aL y.l]] [] (sB b) []) (hb:b=true↔x.lo=y.lo∧x.l=y.l) (h:x=y→bD ae env (qC 9 7 176 M N (i+1)) o) (h':x≠y→Out.ret (sB false) []=o):bD ae env (qC 9 7 176 M N i) o:=by
 have hi:i<M.fns.length:=(ee.1 hx).1
 have hj:i<N.fns.length:=(ee.1 hy).1
 have c:=aU (z:=3) (enc:=aO) (fun _=>rfl) hx
 have c':=aU (z:=3) (enc:=aO) (fun _=>rfl) hy
 have yf:(M.fns.flatMap aO).getD (i*3) .bk = .sc (.int .i64 x.ty):=c 0 (by decide)
 have yg:(N.fns.flatMap aO).getD (i*3) .bk = .sc (.int .i64 y.ty):=c' 0 (by decide)
 have yh:(M.fns.flatMap aO).getD (i*3+0) .bk = .sc (.int .i64 x.ty):=c 0 (by decide)
 have yj:(N.fns.flatMap aO).getD (i*3+0) .bk = .sc (.int .i64 y.ty):=c' 0 (by decide)
 have yl:(M.fns.flatMap aO).getD (i*3+1) .bk = .sc (.int .i64 x.lo):=c 1 (by decide)
 have ym:(N.fns.flatMap aO).getD (i*3+1) .bk = .sc (.int .i64 y.lo):=c' 1 (by decide)
 have NX:(M.fns.flatMap aO).getD (i*3+1+1) .bk=pL x.l:=c 2 (by decide)
 have NY:(N.fns.flatMap aO).getD (i*3+1+1) .bk=pL y.l:=c' 2 (by decide)
 have NZ:(M.fns.flatMap aO).getD (i*3+2) .bk=pL x.l:=c 2 (by decide)
 have N0:(N.fns.flatMap aO).getD (i*3+2) .bk=pL y.l:=c' 2 (by decide)
 have w:sa.wrap ((i:Int)+1)=((i+1:Nat):Int):=by rw[bA (by omega) (by omega)];rfl
 have ht:decide ((i:Int)<(M.fns.length:Int))=true:=decide_eq_true (by omega)
 have hin:aM (i:Int) M.fns.length=true:=by simp only[aM,dp,decide_eq_true_eq];omega
 have jf:aM (i:Int) N.fns.length=true:=by simp only[aM,dp,decide_eq_true_eq];omega
 by_cases e0:x.ty=y.ty
 · unfold qC at *
   rw[←sk]
   refine qJ ?_
   refine ah aI (Ef M N i b) ?_
   simp only[BN,bu,aA.ok,isStr,isInt,aQ,isBool,bh,aq,bg,az,aR,an,acN,ac7,ade,gG,kK,BX,yf,yg,yh,yj,yl,ym,NX,NY,NZ,N0,ht,hin,jf,w]
   refine⟨fun _=>⟨au.toW hd,?_,fun q=>h' ?_,fun q=>(by rw[sk];exact xk (h (by have e1:=hb.1 (by simpa using q);cases x;cases y;simp_all)))⟩,fun q=>(by cases q)⟩
   · (simp[e0];rfl)
   · rintro rfl;rw[hb.2 (by simp)] at q;cases q
 · unfold qC at *
   rw[←Ju]
   refine Eh ?_
   refine ah aI (NI M N i false) ?_
   simp only[Hs,bu,aA.ok,isStr,isInt,aQ,isBool,bh,aq,bg,az,aR,an,acN,ac7,ade,gG,kK,BX,yf,yg,yh,yj,yl,ym,NX,NY,NZ,N0,ht,hin,jf,w]
   refine⟨fun _=>⟨?_,h' (by rintro rfl;exact e0 rfl)⟩,fun q=>(by cases q)⟩
   (have e1:(x.ty != y.ty)=true:=by simpa using e0
    simp only[e1];rfl)
theorem Hu (M N:Mo) (b:Bool) (h:au ae env 22 [.agg (M.aJ.map .p),.agg (N.aJ.map .p)] [] (sB b) []):bD ae env (qC 9 7 176 M N M.fns.length) (.ret (sB b) []):=by
 have ht:decide ((M.fns.length:Int)<(M.fns.length:Int))=false:=decide_eq_false (by omega)
 unfold qC
 rw[←sk]
 refine qJ ?_
 refine ah aI (Ef M N M.fns.length b) ?_
 simp only[BN,bu,aA.ok,ht]
 exact⟨fun q=>(by cases q),fun _=>⟨au.toW h,(by first | rfl | trivial)⟩⟩
theorem Wd (M N:Mo) (hl:M.dh.length≤1000000) (o:Out) (i:Nat) (x y:Li) (hx:M.dh[i]? = some x) (hy:N.dh[i]? = some y) (h:x=y→bD ae env (qC 22 0 175 M N (i+1)) o) (h':x≠y→Out.ret (sB false) []=o):bD ae env (qC 22 0 175 M N i) o:=by
 have hi:i<M.dh.length:=(ee.1 hx).1
 have hj:i<N.dh.length:=(ee.1 hy).1
 have c:=aU (z:=3) (enc:=aH) (fun _=>rfl) hx
 have c':=aU (z:=3) (enc:=aH) (fun _=>rfl) hy
 have yf:(M.dh.flatMap aH).getD (i*3) .bk = .sc (.int .u32 x.mn):=c 0 (by decide)
 have yg:(N.dh.flatMap aH).getD (i*3) .bk = .sc (.int .u32 y.mn):=c' 0 (by decide)
 have yh:(M.dh.flatMap aH).getD (i*3+0) .bk = .sc (.int .u32 x.mn):=c 0 (by decide)
 have yj:(N.dh.flatMap aH).getD (i*3+0) .bk = .sc (.int .u32 y.mn):=c' 0 (by decide)
 have yl:(M.dh.flatMap aH).getD (i*3+1) .bk = .sc (.int .u32 x.mx):=c 1 (by decide)
 have ym:(N.dh.flatMap aH).getD (i*3+1) .bk = .sc (.int .u32 y.mx):=c' 1 (by decide)
 have NX:(M.dh.flatMap aH).getD (i*3+1+1) .bk = .sc (.bool x.cap):=c 2 (by decide)
 have NY:(N.dh.flatMap aH).getD (i*3+1+1) .bk = .sc (.bool y.cap):=c' 2 (by decide)
 have NZ:(M.dh.flatMap aH).getD (i*3+2) .bk = .sc (.bool x.cap):=c 2 (by decide)
 have N0:(N.dh.flatMap aH).getD (i*3+2) .bk = .sc (.bool y.cap):=c' 2 (by decide)
 have w:sa.wrap ((i:Int)+1)=((i+1:Nat):Int):=by rw[bA (by omega) (by omega)];rfl
 have ht:decide ((i:Int)<(M.dh.length:Int))=true:=decide_eq_true (by omega)
 have hin:aM (i:Int) M.dh.length=true:=by simp only[aM,dp,decide_eq_true_eq];omega
 have jf:aM (i:Int) N.dh.length=true:=by simp only[aM,dp,decide_eq_true_eq];omega
 unfold qC at *
 refine ah aI (Ea M N i false) ?_
 simp only[BI,bu,aA.ok,isStr,isInt,aQ,isBool,bh,aq,bg,az,aR,an,acN,ac7,ade,gG,kK,BX,yf,yg,yh,yj,yl,ym,NX,NY,NZ,N0,ht,hin,jf,w]
 refine⟨fun _=>⟨(by first | rfl | trivial | (simp;done)),fun q=>h' ?_,fun q=>h ?_⟩,fun q=>(by cases q)⟩
 · rintro rfl;simp at q
 · obtain⟨p0,p1,p2⟩:=x
   obtain⟨r0,r1,r2⟩:=y
   simp only[adF,dp,beq_iff_eq] at q
   simp only[Li.mk.injEq]
   first | exact q | exact⟨bytes_eq q.1,q.2⟩ | exact⟨bytes_eq q.1,bytes_eq q.2.1,q.2.2⟩ | (simp_all;done)
theorem Q7 (M N:Mo) (o:Out) (h:bD ae env (qC 22 3 175 M N 0) o):bD ae env (qC 22 0 175 M N M.dh.length) o:=by
 have ht:decide ((M.dh.length:Int)<(M.dh.length:Int))=false:=decide_eq_false (by omega)
 unfold qC at *
 refine ah aI (Ea M N M.dh.length false) ?_
 simp only[BI,bu,aA.ok,ht]
 exact⟨fun q=>(by cases q),fun _=>h⟩
theorem We (M N:Mo) (hl:M.dw.length≤1000000) (o:Out) (i:Nat) (x y:Li) (hx:M.dw[i]? = some x) (hy:N.dw[i]? = some y) (h:x=y→bD ae env (qC 22 3 175 M N (i+1)) o) (h':x≠y→Out.ret (sB false) []=o):bD ae env (qC 22 3 175 M N i) o:=by
 have hi:i<M.dw.length:=(ee.1 hx).1
 have hj:i<N.dw.length:=(ee.1 hy).1
 have c:=aU (z:=3) (enc:=aH) (fun _=>rfl) hx
 have c':=aU (z:=3) (enc:=aH) (fun _=>rfl) hy
 have yf:(M.dw.flatMap aH).getD (i*3) .bk = .sc (.int .u32 x.mn):=c 0 (by decide)
 have yg:(N.dw.flatMap aH).getD (i*3) .bk = .sc (.int .u32 y.mn):=c' 0 (by decide)
 have yh:(M.dw.flatMap aH).getD (i*3+0) .bk = .sc (.int .u32 x.mn):=c 0 (by decide)
 have yj:(N.dw.flatMap aH).getD (i*3+0) .bk = .sc (.int .u32 y.mn):=c' 0 (by decide)
 have yl:(M.dw.flatMap aH).getD (i*3+1) .bk = .sc (.int .u32 x.mx):=c 1 (by decide)
 have ym:(N.dw.flatMap aH).getD (i*3+1) .bk = .sc (.int .u32 y.mx):=c' 1 (by decide)
 have NX:(M.dw.flatMap aH).getD (i*3+1+1) .bk = .sc (.bool x.cap):=c 2 (by decide)
 have NY:(N.dw.flatMap aH).getD (i*3+1+1) .bk = .sc (.bool y.cap):=c' 2 (by decide)
 have NZ:(M.dw.flatMap aH).getD (i*3+2) .bk = .sc (.bool x.cap):=c 2 (by decide)
 have N0:(N.dw.flatMap aH).getD (i*3+2) .bk = .sc (.bool y.cap):=c' 2 (by decide)
 have w:sa.wrap ((i:Int)+1)=((i+1:Nat):Int):=by rw[bA (by omega) (by omega)];rfl
 have ht:decide ((i:Int)<(M.dw.length:Int))=true:=decide_eq_true (by omega)
 have hin:aM (i:Int) M.dw.length=true:=by simp only[aM,dp,decide_eq_true_eq];omega
 have jf:aM (i:Int) N.dw.length=true:=by simp only[aM,dp,decide_eq_true_eq];omega
 unfold qC at *
 refine ah aI (Eb M N i false) ?_
 simp only[BJ,bu,aA.ok,isStr,isInt,aQ,isBool,bh,aq,bg,az,aR,an,acN,ac7,ade,gG,kK,BX,yf,yg,yh,yj,yl,ym,NX,NY,NZ,N0,ht,hin,jf,w]
 refine⟨fun _=>⟨(by first | rfl | trivial | (simp;done)),fun q=>h' ?_,fun q=>h ?_⟩,fun q=>(by cases q)⟩
 · rintro rfl;simp at q
 · obtain⟨p0,p1,p2⟩:=x
   obtain⟨r0,r1,r2⟩:=y
   simp only[adF,dp,beq_iff_eq] at q
   simp only[Li.mk.injEq]
   first | exact q | exact⟨bytes_eq q.1,q.2⟩ | exact⟨bytes_eq q.1,bytes_eq q.2.1,q.2.2⟩ | (simp_all;done)
theorem Q8 (M N:Mo) (o:Out) (h:bD ae env (qC 22 6 175 M N 0) o):bD ae env (qC 22 3 175 M N M.dw.length) o:=by
 have ht:decide ((M.dw.length:Int)<(M.dw.length:Int))=false:=decide_eq_false (by omega)
 unfold qC at *
 refine ah aI (Eb M N M.dw.length false) ?_
 simp only[BJ,bu,aA.ok,ht]
 exact⟨fun q=>(by cases q),fun _=>h⟩
theorem so (vs:List AV) (m:Mem):af ae pE 22 6 vs m 0 175=af ae env 22 6 vs m 0 175:=by kernel_rfl
theorem Jv (vs:List AV) (m:Mem):af ae BB 22 6 vs m 0 175=af ae env 22 6 vs m 0 175:=by kernel_rfl
theorem FM (vs:List AV) (m:Mem):af ae pE 22 9 vs m 0 175=af ae env 22 9 vs m 0 175:=by kernel_rfl
theorem Wf (M N:Mo) (hl:M.gls.length≤1000000) (o:Out) (i:Nat) (x y:Gl) (hx:M.gls[i]? = some x) (hy:N.gls[i]? = some y) (b:Bool) (hd:au ae env 46 [aL x.l,aL y.l] [] (sB b) []) (hb:b=true↔x.l=y.l) (h:x=y→bD ae env (qC 22 6 175 M N (i+1)) o) (h':x≠y→Out.ret (sB false) []=o):bD ae env (qC 22 6 175 M N i) o:=by
 have hi:i<M.gls.length:=(ee.1 hx).1
 have hj:i<N.gls.length:=(ee.1 hy).1
 have c:=aU (z:=2) (enc:=bP) (fun _=>rfl) hx
 have c':=aU (z:=2) (enc:=bP) (fun _=>rfl) hy
 have yf:(M.gls.flatMap bP).getD (i*2) .bk = .sc (.bool x.mu):=c 0 (by decide)
 have yg:(N.gls.flatMap bP).getD (i*2) .bk = .sc (.bool y.mu):=c' 0 (by decide)
 have yh:(M.gls.flatMap bP).getD (i*2+0) .bk = .sc (.bool x.mu):=c 0 (by decide)
 have yj:(N.gls.flatMap bP).getD (i*2+0) .bk = .sc (.bool y.mu):=c' 0 (by decide)
 have yl:(M.gls.flatMap bP).getD (i*2+1) .bk=pL x.l:=c 1 (by decide)
 have ym:(N.gls.flatMap bP).getD (i*2+1) .bk=pL y.l:=c' 1 (by decide)
 have w:sa.wrap ((i:Int)+1)=((i+1:Nat):Int):=by rw[bA (by omega) (by omega)];rfl
 have ht:decide ((i:Int)<(M.gls.length:Int))=true:=decide_eq_true (by omega)
 have hin:aM (i:Int) M.gls.length=true:=by simp only[aM,dp,decide_eq_true_eq];omega
 have jf:aM (i:Int) N.gls.length=true:=by simp only[aM,dp,decide_eq_true_eq];omega
 by_cases e0:x.mu=y.mu
 · unfold qC at *
   rw[←so]
   refine qJ ?_
   refine ah aI (Eg M N i b) ?_
   simp only[BO,bu,aA.ok,isStr,isInt,aQ,isBool,bh,aq,bg,az,aR,an,acN,ac7,ade,gG,kK,BX,yf,yg,yh,yj,yl,ym,ht,hin,jf,w]
   refine⟨fun _=>⟨au.toW hd,?_,fun q=>h' ?_,fun q=>(by rw[so];exact xk (h (by have e1:=hb.1 (by simpa using q);cases x;cases y;simp_all)))⟩,fun q=>(by cases q)⟩
   · (generalize x.mu=p at e0 ⊢;generalize y.mu=r at e0 ⊢;cases p<;>cases r<;>first | rfl | (exact absurd rfl e0) | (cases e0;done))
   · rintro rfl;rw[hb.2 (by simp)] at q;cases q
 · unfold qC at *
   rw[←Jv]
   refine Eh ?_
   refine ah aI (NJ M N i false) ?_
   simp only[Ht,bu,aA.ok,isStr,isInt,aQ,isBool,bh,aq,bg,az,aR,an,acN,ac7,ade,gG,kK,BX,yf,yg,yh,yj,yl,ym,ht,hin,jf,w]
   refine⟨fun _=>⟨?_,h' (by rintro rfl;exact e0 rfl)⟩,fun q=>(by cases q)⟩
   (generalize x.mu=p at e0 ⊢;generalize y.mu=r at e0 ⊢;cases p<;>cases r<;>first | rfl | (exact absurd rfl e0) | (cases e0;done))
theorem Q9 (M N:Mo) (o:Out) (h:bD ae env (qC 22 9 175 M N 0) o):bD ae env (qC 22 6 175 M N M.gls.length) o:=by
 have ht:decide ((M.gls.length:Int)<(M.gls.length:Int))=false:=decide_eq_false (by omega)
 unfold qC at *
 rw[←so]
 refine qJ ?_
 refine ah aI (Eg M N M.gls.length false) ?_
 simp only[BO,bu,aA.ok,ht]
 exact⟨fun q=>(by cases q),fun _=>(by rw[FM];exact xk h)⟩
theorem Wg (M N:Mo) (hl:M.exs.length≤1000000) (o:Out) (i:Nat) (x y:Ex) (hx:M.exs[i]? = some x) (hy:N.exs[i]? = some y) (h:x=y→bD ae env (qC 22 9 175 M N (i+1)) o) (h':x≠y→Out.ret (sB false) []=o):bD ae env (qC 22 9 175 M N i) o:=by
 have hi:i<M.exs.length:=(ee.1 hx).1
 have hj:i<N.exs.length:=(ee.1 hy).1
 have c:=aU (z:=3) (enc:=bB) (fun _=>rfl) hx
 have c':=aU (z:=3) (enc:=bB) (fun _=>rfl) hy
 have yf:(M.exs.flatMap bB).getD (i*3) .bk = .sc (.string x.nm):=c 0 (by decide)
 have yg:(N.exs.flatMap bB).getD (i*3) .bk = .sc (.string y.nm):=c' 0 (by decide)
 have yh:(M.exs.flatMap bB).getD (i*3+0) .bk = .sc (.string x.nm):=c 0 (by decide)
 have yj:(N.exs.flatMap bB).getD (i*3+0) .bk = .sc (.string y.nm):=c' 0 (by decide)
 have yl:(M.exs.flatMap bB).getD (i*3+1) .bk = .sc (.int .i64 x.kind):=c 1 (by decide)
 have ym:(N.exs.flatMap bB).getD (i*3+1) .bk = .sc (.int .i64 y.kind):=c' 1 (by decide)
 have NX:(M.exs.flatMap bB).getD (i*3+1+1) .bk = .sc (.int .u32 x.ix):=c 2 (by decide)
 have NY:(N.exs.flatMap bB).getD (i*3+1+1) .bk = .sc (.int .u32 y.ix):=c' 2 (by decide)
 have NZ:(M.exs.flatMap bB).getD (i*3+2) .bk = .sc (.int .u32 x.ix):=c 2 (by decide)
 have N0:(N.exs.flatMap bB).getD (i*3+2) .bk = .sc (.int .u32 y.ix):=c' 2 (by decide)
 have w:sa.wrap ((i:Int)+1)=((i+1:Nat):Int):=by rw[bA (by omega) (by omega)];rfl
 have ht:decide ((i:Int)<(M.exs.length:Int))=true:=decide_eq_true (by omega)
 have hin:aM (i:Int) M.exs.length=true:=by simp only[aM,dp,decide_eq_true_eq];omega
 have jf:aM (i:Int) N.exs.length=true:=by simp only[aM,dp,decide_eq_true_eq];omega
 unfold qC at *
 refine ah aI (Ec M N i false) ?_
 simp only[BK,bu,aA.ok,isStr,isInt,aQ,isBool,bh,aq,bg,az,aR,an,acN,ac7,ade,gG,kK,BX,yf,yg,yh,yj,yl,ym,NX,NY,NZ,N0,ht,hin,jf,w]
 refine⟨fun _=>⟨(by first | rfl | trivial | (simp;done)),fun q=>h' ?_,fun q=>h ?_⟩,fun q=>(by cases q)⟩
 · rintro rfl;simp at q
 · obtain⟨p0,p1,p2⟩:=x
   obtain⟨r0,r1,r2⟩:=y
   simp only[adF,dp,beq_iff_eq] at q
   simp only[Ex.mk.injEq]
   first | exact q | exact⟨bytes_eq q.1,q.2⟩ | exact⟨bytes_eq q.1,bytes_eq q.2.1,q.2.2⟩ | (simp_all;done)
theorem Ra (M N:Mo) (o:Out) (h:bD ae env (qC 22 12 175 M N 0) o):bD ae env (qC 22 9 175 M N M.exs.length) o:=by
 have ht:decide ((M.exs.length:Int)<(M.exs.length:Int))=false:=decide_eq_false (by omega)
 unfold qC at *
 refine ah aI (Ec M N M.exs.length false) ?_
 simp only[BK,bu,aA.ok,ht]
 exact⟨fun q=>(by cases q),fun _=>h⟩
theorem Wh (M N:Mo) (hl:M.els.length≤1000000) (o:Out) (i:Nat) (x y:El) (hx:M.els[i]? = some x) (hy:N.els[i]? = some y) (a b:Bool) (ZE:au ae env 46 [aL x.l,aL y.l] [] (sB a) []) (ha:a=true↔x.l=y.l) (hd:au ae env 47 [.p (.ps x.fs.length 1 (bU .u32 x.fs)),.p (.ps y.fs.length 1 (bU .u32 y.fs))] [] (sB b) []) (hb:b=true↔x.fs=y.fs) (h:x=y→bD ae env (qC 22 12 175 M N (i+1)) o) (h':x≠y→Out.ret (sB false) []=o):bD ae env (qC 22 12 175 M N i) o:=by
 have hi:i<M.els.length:=(ee.1 hx).1
 have hj:i<N.els.length:=(ee.1 hy).1
 have c:=aU (z:=2) (enc:=aW) (fun _=>rfl) hx
 have c':=aU (z:=2) (enc:=aW) (fun _=>rfl) hy
 have yf:(M.els.flatMap aW).getD (i*2) .bk=pL x.l:=c 0 (by decide)
 have yg:(N.els.flatMap aW).getD (i*2) .bk=pL y.l:=c' 0 (by decide)
 have yh:(M.els.flatMap aW).getD (i*2+0) .bk=pL x.l:=c 0 (by decide)
 have yj:(N.els.flatMap aW).getD (i*2+0) .bk=pL y.l:=c' 0 (by decide)
 have yl:(M.els.flatMap aW).getD (i*2+1) .bk=pT .u32 x.fs:=c 1 (by decide)
 have ym:(N.els.flatMap aW).getD (i*2+1) .bk=pT .u32 y.fs:=c' 1 (by decide)
 have w:sa.wrap ((i:Int)+1)=((i+1:Nat):Int):=by rw[bA (by omega) (by omega)];rfl
 have ht:decide ((i:Int)<(M.els.length:Int))=true:=decide_eq_true (by omega)
 have hin:aM (i:Int) M.els.length=true:=by simp only[aM,dp,decide_eq_true_eq];omega
 have jf:aM (i:Int) N.els.length=true:=by simp only[aM,dp,decide_eq_true_eq];omega
 cases a with
 |true=>
  unfold qC at *
  refine ah aI (Ed M N i b) ?_
  simp only[BL,bu,aA.ok,isStr,isInt,aQ,isBool,bh,aq,bg,az,aR,an,acN,ac7,ade,gG,kK,BX,yf,yg,yh,yj,yl,ym,ht,hin,jf,w]
  refine⟨fun _=>⟨ZE,hd,(by first | rfl | trivial | (simp;done)),fun q=>h' ?_,fun q=>h ?_⟩,fun q=>(by cases q)⟩
  · rintro rfl;rw[hb.2 rfl] at q;cases q
  · have e1:=ha.1 rfl
    have e2:=hb.1 (by simpa using q)
    cases x;cases y;simp_all
 |false=>
  unfold qC at *
  refine ah aI (NG M N i false) ?_
  simp only[Hq,bu,aA.ok,isStr,isInt,aQ,isBool,bh,aq,bg,az,aR,an,acN,ac7,ade,gG,kK,BX,yf,yg,yh,yj,yl,ym,ht,hin,jf,w]
  exact⟨fun _=>⟨ZE,(by first | rfl | trivial | (simp;done)),h' (by rintro rfl;have:=ha.2 rfl;cases this)⟩,fun q=>(by cases q)⟩
theorem Rb (M N:Mo) (o:Out) (h:bD ae env (qC 22 15 175 M N 0) o):bD ae env (qC 22 12 175 M N M.els.length) o:=by
 have ht:decide ((M.els.length:Int)<(M.els.length:Int))=false:=decide_eq_false (by omega)
 unfold qC at *
 refine ah aI (Ed M N M.els.length false) ?_
 simp only[BL,bu,aA.ok,ht]
 exact⟨fun q=>(by cases q),fun _=>h⟩
theorem Wi (M N:Mo) (hl:M.aY.length≤1000000) (o:Out) (i:Nat) (x y:Da) (hx:M.aY[i]? = some x) (hy:N.aY[i]? = some y) (a b:Bool) (ZE:au ae env 46 [aL x.l,aL y.l] [] (sB a) []) (ha:a=true↔x.l=y.l) (hd:au ae env 8 [.p (.ps x.bs.length 1 (bU .u8 x.bs)),.p (.ps y.bs.length 1 (bU .u8 y.bs))] [] (sB b) []) (hb:b=true↔x.bs=y.bs) (h:x=y→bD ae env (qC 22 15 175 M N (i+1)) o) (h':x≠y→Out.ret (sB false) []=o):bD ae env (qC 22 15 175 M N i) o:=by
 have hi:i<M.aY.length:=(ee.1 hx).1
 have hj:i<N.aY.length:=(ee.1 hy).1
 have c:=aU (z:=2) (enc:=bq) (fun _=>rfl) hx
 have c':=aU (z:=2) (enc:=bq) (fun _=>rfl) hy
 have yf:(M.aY.flatMap bq).getD (i*2) .bk=pL x.l:=c 0 (by decide)
 have yg:(N.aY.flatMap bq).getD (i*2) .bk=pL y.l:=c' 0 (by decide)
 have yh:(M.aY.flatMap bq).getD (i*2+0) .bk=pL x.l:=c 0 (by decide)
 have yj:(N.aY.flatMap bq).getD (i*2+0) .bk=pL y.l:=c' 0 (by decide)
 have yl:(M.aY.flatMap bq).getD (i*2+1) .bk=pT .u8 x.bs:=c 1 (by decide)
 have ym:(N.aY.flatMap bq).getD (i*2+1) .bk=pT .u8 y.bs:=c' 1 (by decide)
 have w:sa.wrap ((i:Int)+1)=((i+1:Nat):Int):=by rw[bA (by omega) (by omega)];rfl
 have ht:decide ((i:Int)<(M.aY.length:Int))=true:=decide_eq_true (by omega)
 have hin:aM (i:Int) M.aY.length=true:=by simp only[aM,dp,decide_eq_true_eq];omega
 have jf:aM (i:Int) N.aY.length=true:=by simp only[aM,dp,decide_eq_true_eq];omega
 cases a with
 |true=>
  unfold qC at *
  refine ah aI (Ee M N i b) ?_
  simp only[BM,bu,aA.ok,isStr,isInt,aQ,isBool,bh,aq,bg,az,aR,an,acN,ac7,ade,gG,kK,BX,yf,yg,yh,yj,yl,ym,ht,hin,jf,w]
  refine⟨fun _=>⟨ZE,hd,(by first | rfl | trivial | (simp;done)),fun q=>h' ?_,fun q=>h ?_⟩,fun q=>(by cases q)⟩
  · rintro rfl;rw[hb.2 rfl] at q;cases q
  · have e1:=ha.1 rfl
    have e2:=hb.1 (by simpa using q)
    cases x;cases y;simp_all
 |false=>
  unfold qC at *
  refine ah aI (NH M N i false) ?_
  simp only[Hr,bu,aA.ok,isStr,isInt,aQ,isBool,bh,aq,bg,az,aR,an,acN,ac7,ade,gG,kK,BX,yf,yg,yh,yj,yl,ym,ht,hin,jf,w]
  exact⟨fun _=>⟨ZE,(by first | rfl | trivial | (simp;done)),h' (by rintro rfl;have:=ha.2 rfl;cases this)⟩,fun q=>(by cases q)⟩
theorem Rc (M N:Mo):bD ae env (qC 22 15 175 M N M.aY.length) (.ret (sB true) []):=by
 have ht:decide ((M.aY.length:Int)<(M.aY.length:Int))=false:=decide_eq_false (by omega)
 unfold qC
 refine ah aI (Ee M N M.aY.length false) ?_
 simp only[BM,bu,aA.ok,ht]
 exact⟨fun q=>(by cases q),fun _=>(by first | rfl | trivial)⟩
theorem Ep.at {c d:cg} {p:Prop} (h:Ep c p) (k : ∀o,bD ae env c o→bD ae env d o):Ep d p:=⟨fun q=>k _ (h.1 q),fun q=>k _ (h.2 q)⟩
theorem Wj (M N:Mo) (hM:M.fit) (hn:M.VM) (rq:M.dh.length=N.dh.length) (Oe:M.dw.length=N.dw.length) (hl3:M.gls.length=N.gls.length) (hl4:M.exs.length=N.exs.length) (hl5:M.els.length=N.els.length) (hl6:M.aY.length=N.aY.length)
  (hb : ∀x∈M.aY,∀z∈x.bs,0≤z∧z<256) (hb' : ∀x∈N.aY,∀z∈x.bs,0≤z∧z<256) :
  ∃b,au ae env 22 [.agg (M.aJ.map .p),.agg (N.aJ.map .p)] [] (sB b) []∧(b=true↔M.dh=N.dh∧M.dw=N.dw∧M.gls=N.gls∧M.exs=N.exs∧M.els=N.els∧M.aY=N.aY∧True):=by
 have yF:Ep (qC 22 15 175 M N 0) (M.aY=N.aY∧True):=gU hl6 (D:=qC 22 15 175 M N) (fun o i x y hx hy h h'=>by
  obtain⟨a,ka,ea⟩:=sj _ x.l y.l (dd _) (hn.aY x (oi hx)).1
  obtain⟨b,kb,eb⟩:=NL x.bs y.bs (hb x (oi hx)) (hb' y (oi hy))
  exact Wi M N hM.aY o i x y hx hy a b ka ea kb eb h h') ⟨fun _=>Rc M N,fun q=>absurd trivial q⟩
 have yE:Ep (qC 22 12 175 M N 0) (M.els=N.els∧M.aY=N.aY∧True):=gU hl5 (D:=qC 22 12 175 M N) (fun o i x y hx hy h h'=>by
  obtain⟨a,ka,ea⟩:=sj _ x.l y.l (dd _) (hn.els x (oi hx)).1
  obtain⟨b,kb,eb⟩:=NK x.fs y.fs (hn.els x (oi hx)).2
  exact Wh M N hM.els o i x y hx hy a b ka ea kb eb h h') (yF.at fun o=>Rb M N o)
 have yD:Ep (qC 22 9 175 M N 0) _:=gU hl4 (D:=qC 22 9 175 M N) (fun o i x y hx hy h h'=>Wg M N hM.exs o i x y hx hy h h') (yE.at fun o=>Ra M N o)
 have yC:Ep (qC 22 6 175 M N 0) _:=gU hl3 (D:=qC 22 6 175 M N) (fun o i x y hx hy h h'=>by
  obtain⟨b,kb,eb⟩:=sj _ x.l y.l (dd _) (hn.gls x (oi hx))
  exact Wf M N hM.gls o i x y hx hy b kb eb h h') (yD.at fun o=>Q9 M N o)
 have yB:Ep (qC 22 3 175 M N 0) _:=gU Oe (D:=qC 22 3 175 M N) (fun o i x y hx hy h h'=>We M N hM.dw o i x y hx hy h h') (yC.at fun o=>Q8 M N o)
 have yA:Ep (qC 22 0 175 M N 0) _:=gU rq (D:=qC 22 0 175 M N) (fun o i x y hx hy h h'=>Wd M N hM.dh o i x y hx hy h h') (yB.at fun o=>Q7 M N o)
 by_cases p:M.dh=N.dh∧M.dw=N.dw∧M.gls=N.gls∧M.exs=N.exs∧M.els=N.els∧M.aY=N.aY∧True
 · exact⟨true,aa aI (D7 M N) (yA.1 p),⟨fun _=>p,fun _=>rfl⟩⟩
 · exact⟨false,aa aI (D7 M N) (yA.2 p),⟨fun h=>(by cases h),fun h=>absurd h p⟩⟩
theorem Wk (M N:Mo) (hM:M.fit) (hn:M.VM) (hb : ∀x∈M.aY,∀z∈x.bs,0≤z∧z<256) (hb' : ∀x∈N.aY,∀z∈x.bs,0≤z∧z<256) :
  ∃b,au ae env 9 [.agg (M.aJ.map .p),.agg (N.aJ.map .p)] [] (sB b) []∧(b=true↔M=N):=by
 have key:M.tys.length=N.tys.length→M.aZ.length=N.aZ.length→M.fns.length=N.fns.length→M.dh.length=N.dh.length→M.dw.length=N.dw.length→M.gls.length=N.gls.length→M.exs.length=N.exs.length→M.els.length=N.els.length→M.aY.length=N.aY.length →
   Ep (qC 9 1 176 M N 0) (M.tys=N.tys∧M.aZ=N.aZ∧M.fns=N.fns∧M.dh=N.dh∧M.dw=N.dw∧M.gls=N.gls∧M.exs=N.exs∧M.els=N.els∧M.aY=N.aY∧True):=by
  intro a1 a2 a3 a4 a5 a6 a7 a8 a9
  obtain⟨b,kb,eb⟩:=Wj M N hM hn a4 a5 a6 a7 a8 a9 hb hb'
  have yC:Ep (qC 9 7 176 M N 0) _:=gU a3 (D:=qC 9 7 176 M N) (fun o i x y hx hy h h'=>by
   obtain⟨b,kb,eb⟩:=V9 x.lo y.lo x.l y.l (hn.fns x (oi hx))
   exact Wc M N hM.fns o i x y hx hy b kb eb h h') (p:=M.dh=N.dh∧M.dw=N.dw∧M.gls=N.gls∧M.exs=N.exs∧M.els=N.els∧M.aY=N.aY∧True)
   ⟨fun q=>by have e:=eb.2 q;subst e;exact Hu M N _ kb,fun q=>by
     have e:b=false:=by cases b with | false=>rfl | true=>exact absurd (eb.1 rfl) q
     subst e;exact Hu M N _ kb⟩
  have yB:Ep (qC 9 4 176 M N 0) _:=gU a2 (D:=qC 9 4 176 M N) (fun o i x y hx hy h h'=>Wb M N hM.aZ o i x y hx hy h h') (yC.at fun o=>Q6 M N o)
  exact gU a1 (D:=qC 9 1 176 M N) (fun o i x y hx hy h h'=>Wa M N hM.tys o i x y hx hy h h') (yB.at fun o=>Q5 M N o)
 by_cases e:M=N
 · subst e
   refine⟨true,aa aI (D6 M M) ?_,by simp⟩
   have hs:(!M.st==M.st)=false:=by cases M.st<;>rfl
   simp only[BF,dU,aA.ok,bne_self_eq_false,hs]
   exact⟨fun q=>(by cases q),fun _=>⟨fun q=>(by cases q),fun _=>⟨fun q=>(by cases q),fun _=>⟨fun q=>(by cases q),fun _=>⟨fun q=>(by cases q),fun _=>⟨fun q=>(by cases q),fun _=>⟨fun q=>(by cases q),fun _=>⟨fun q=>(by cases q),fun _=>⟨fun q=>(by cases q),fun _=>⟨fun q=>(by cases q),fun _=>⟨fun q=>(by cases q),fun _=>(key rfl rfl rfl rfl rfl rfl rfl rfl rfl).1 ⟨rfl,rfl,rfl,rfl,rfl,rfl,rfl,rfl,rfl,trivial⟩⟩⟩⟩⟩⟩⟩⟩⟩⟩⟩⟩
 · refine⟨false,aa aI (D6 M N) ?_,by simp[e]⟩
   have ne : ∀{p:Prop},(p↔True)→p:=fun h=>h.2 trivial
   simp only[BF,dU,aA.ok]
   refine⟨fun _=> ?_,fun q1=>⟨fun _=> ?_,fun q2=>⟨fun _=> ?_,fun q3=>⟨fun _=> ?_,fun q4=>⟨fun _=> ?_,fun q5=>⟨fun _=> ?_,fun q6=>⟨fun _=> ?_,fun q7=>⟨fun _=> ?_,fun q8=>⟨fun _=> ?_,fun q9=>⟨fun _=> ?_,fun q10=>⟨fun _=> ?_,fun q11=>(key (gV q1) (gV q2) (gV q3) (gV q4) (gV q5) (gV q6) (gV q7) (gV q10) (gV q11)).2 fun k=>e ?_⟩⟩⟩⟩⟩⟩⟩⟩⟩⟩⟩
   all_goals first | exact ads | rfl | skip
   have s8:M.st=N.st:=by revert q8;cases M.st<;>cases N.st<;>simp
   have s9:M.sn=N.sn:=by simpa using q9
   obtain⟨k1,k2,k3,k4,k5,k6,k7,k8,k9,_⟩:=k
   cases M;cases N
   simp only at k1 k2 k3 k4 k5 k6 k7 k8 k9 s8 s9
   subst k1 k2 k3 k4 k5 k6 k7 k8 k9 s8 s9
   rfl
end Go.Proofs.YtncncijedmfpjaaGreatDoor.N
end
