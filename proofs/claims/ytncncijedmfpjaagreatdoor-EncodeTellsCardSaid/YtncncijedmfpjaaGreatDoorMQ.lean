import Derived.Test.YtncncijedmfpjaaGreatDoorMP
import Derived.Test.YtncncijedmfpjaaGreatDoorMI
open Go.Proofs.Tryz renaming prog→ae
open List renaming flatMap→ajO,getElem?_eq_some_iff→dT,mem_of_getElem?→mv,map→aeM,length_append→dC,drop_zero→aeI,drop_eq_getElem_cons→agj,getElem?_eq_getElem→da,drop_length→ajU,nil_append→Hm
open Go.IntKind renaming i64→re,u32→aeG
open Bool renaming and_eq_true→di,true_and→ajX,and_true→ajQ,true_or→ake,or_true→aki,false_or→pb,or_eq_true→iu,or_eq_false_iff→o6,not_eq_true'→iv
open Int renaming toNat_natCast→afm
noncomputable section
section
set_option linter.unusedSimpArgs false
set_option linter.unusedVariables false
namespace Go.Proofs.YtncncijedmfpjaaGreatDoor.N
open Go Go.Am
def ab4:bA:=aM aE aC [(100,0)] [] []
def ahh:Sc:= .fin
def VH (M:Mo):aA:=
 (.at (ah ae env 100 0 [.mp 0 0,bB,sI .i64 0] ([.pc M.aJ]) 0 45))
theorem RN (M:Mo):aI ae env ab4 1000000 100 ([AV.agg (aeM AV.p M.aJ)]) ([]) ahh=VH M:=by kernel_rfl
def VI:bA:=aM aE aC [(100,0),(100,2)] [(100,0,1)] [(100,0,2)]
def ab5:Sc:= .fin
def yT (M:Mo) (n:Nat) (i:Nat) (a:List PV):aA:=
 (.test (decide ((↑i:Int)<(↑M.aX.length:Int)))
 (.must (aP (↑i:Int) M.aX.length&&true&&true&&(isStr (aq (ajO bh M.aX) (aB i*3+0))&&true&&(aP (↑i:Int) M.aX.length&&true&&true&&(isStr (aq (ajO bh M.aX) (aB i*3+1))&&true&&true)))&&true)
 (.at (ah ae env 100 0 [.mp 0 0,.os (some 1) 2 1 [.sc (.string (bg (aq (ajO bh M.aX) (aB i*3+0)))),.sc (.string (bg (aq (ajO bh M.aX) (aB i*3+1))))],sI .i64 (re.wrap ((↑i:Int)+1))] ([.pc M.aJ,.tok]) 0 45)))
 (.at (ah ae env 100 2 [.mp 0 0,bB,sI .i64 0] ([.pc M.aJ]) 0 45)))
theorem B5 (M:Mo) (n:Nat) (i:Nat) (a:List PV):grow ae env VI 1000000 true (ah ae env 100 0 ([AV.mp 0 0,AV.os Option.none 0 0 [],sI re (↑i:Int)]) ([bq.pc M.aJ]) 0 45) ab5 atEnd=yT M n i a:=by kernel_rfl
def VJ:bA:=aM aE aC [(100,0),(100,2)] [(100,0,1)] [(100,0,2)]
def ab6:Sc:= .fin
def yU (M:Mo) (n:Nat) (i:Nat) (a:List PV):aA:=
 (.test (decide ((↑i:Int)<(↑M.aX.length:Int)))
 (.must (aP (↑i:Int) M.aX.length&&true&&true&&(isStr (aq (ajO bh M.aX) (aB i*3+0))&&true&&(aP (↑i:Int) M.aX.length&&true&&true&&(isStr (aq (ajO bh M.aX) (aB i*3+1))&&true&&(((n+2)*16).ble aR&&(n+2).ble aR&&true&&true))))&&true)
 (.at (ah ae env 100 0 [.mp 0 0,.os (some 1) (n+2) 1 (a++[.sc (.string (bg (aq (ajO bh M.aX) (aB i*3+0)))),.sc (.string (bg (aq (ajO bh M.aX) (aB i*3+1))))]),sI .i64 (re.wrap ((↑i:Int)+1))] ([.pc M.aJ,.tok]) 0 45)))
 (.at (ah ae env 100 2 [.mp 0 0,.os (some 1) n 1 a,sI .i64 0] ([.pc M.aJ,.tok]) 0 45)))
theorem B6 (M:Mo) (n:Nat) (i:Nat) (a:List PV):grow ae env VJ 1000000 true (ah ae env 100 0 ([AV.mp 0 0,AV.os (Option.some 1) n 1 a,sI re (↑i:Int)]) ([bq.pc M.aJ,bq.tok]) 0 45) ab6 atEnd=yU M n i a:=by kernel_rfl
def VK:bA:=aM aE aC [(100,2)] [(100,0,3)] [(100,10,4),(100,10,6)]
def ab7:Sc:= .fin
def yV (M:Mo) (n:Nat) (i:Nat) (a:List PV):aA:=
 (.test (decide ((↑i:Int)<(↑M.exs.length:Int)))
 (.must (aP (↑i:Int) M.exs.length&&true&&true)
 (.must (isStr (aq (ajO bu M.exs) (aB i*3+0))&&true)
 (.at (ah ae env 100 2 [.mp 0 0,.os (some 1) 1 1 [.sc (.string (bg (aq (ajO bu M.exs) (aB i*3+0))))],sI .i64 (re.wrap ((↑i:Int)+1))] ([.pc M.aJ,.tok]) 0 45))))
 (.out (.ret (bB) [])))
theorem B7 (M:Mo) (n:Nat) (i:Nat) (a:List PV):grow ae env VK 1000000 true (ah ae env 100 2 ([AV.mp 0 0,AV.os Option.none 0 0 [],sI re (↑i:Int)]) ([bq.pc M.aJ]) 0 45) ab7 atEnd=yV M n i a:=by kernel_rfl
def VL:bA:=aM aE aC [(100,2)] [(100,0,3)] [(100,10,4),(100,10,6),(100,10,8)]
def ab8:Sc:= .fin
def yW (M:Mo) (n:Nat) (i:Nat) (a:List PV):aA:=
 (.test (decide ((↑i:Int)<(↑M.exs.length:Int)))
 (.must (aP (↑i:Int) M.exs.length&&true&&true)
 (.must (isStr (aq (ajO bu M.exs) (aB i*3+0))&&true)
 (.must (((n+1)*16).ble aR&&(n+1).ble aR&&true)
 (.at (ah ae env 100 2 [.mp 0 0,.os (some 1) (n+1) 1 (a++[.sc (.string (bg (aq (ajO bu M.exs) (aB i*3+0))))]),sI .i64 (re.wrap ((↑i:Int)+1))] ([.pc M.aJ,.tok]) 0 45)))))
 (.out (.ret (.os (some 0) n 1 a) [.tok])))
theorem B8 (M:Mo) (n:Nat) (i:Nat) (a:List PV):grow ae env VL 1000000 true (ah ae env 100 2 ([AV.mp 0 0,AV.os (Option.some 1) n 1 a,sI re (↑i:Int)]) ([bq.pc M.aJ,bq.tok]) 0 45) ab8 atEnd=yW M n i a:=by kernel_rfl
def ab9:bA:=aM aE aC [(99,0)] [] []
def ahi:Sc:= .fin
def VM (M:Mo) (e:Int):aA:=
 (.at (ah ae env 99 0 [sI .i64 e,.mp 0 0,sI .i64 0] ([.pc M.aJ]) 0 70))
theorem RO (M:Mo) (e:Int):aI ae env ab9 1000000 99 ([AV.agg (aeM AV.p M.aJ),sI re e]) ([]) ahi=VM M e:=by kernel_rfl
def VN:bA:=aM aE aC [(99,0),(99,3)] [(99,0,1),(99,0,2)] [(99,5,3),(99,5,6)]
def acd (M:Mo) (e:Int) (i:Nat) (b:Bool):Sc:=(.fork (.ans 120 (.p (.sc (.bool b))) ([]) .fin) .fin)
def yX (M:Mo) (e:Int) (i:Nat) (b:Bool):aA:=
 (.test (decide ((↑i:Int)<(↑M.fns.length:Int)))
 (.must (aP (↑i:Int) M.fns.length&&true&&true)
 (.must (aO (aq (ajO aG M.fns) (aB i*3+1+1))&&true)
 (.call ⟨120,[.p (.ps (an (aq (ajO aG M.fns) (aB i*3+1+1))) (aD (aq (ajO aG M.fns) (aB i*3+1+1))) (ak (aq (ajO aG M.fns) (aB i*3+1+1)))),sI .i64 e],[],.p (.sc (.bool b)),[]⟩
 (.test (b)
 gj
 (.at (ah ae env 99 0 [sI .i64 e,.mp 0 0,sI .i64 (re.wrap ((↑i:Int)+1))] ([.pc M.aJ]) 0 70))))))
 (.at (ah ae env 99 3 [sI .i64 e,.mp 0 0,sI .i64 0] ([.pc M.aJ]) 0 70)))
theorem B9 (M:Mo) (e:Int) (i:Nat) (b:Bool):grow ae env VN 1000000 true (ah ae env 99 0 ([sI re e,AV.mp 0 0,sI re (↑i:Int)]) ([bq.pc M.aJ]) 0 70) (acd M e i b) atEnd=yX M e i b:=by kernel_rfl
def VO:bA:=aM aE aC [(99,3),(99,6)] [(99,0,4),(99,0,5)] [(99,10,3),(99,10,5)]
def ace (M:Mo) (e:Int) (i:Nat) (b:Bool):Sc:=(.fork (.ans 120 (.p (.sc (.bool b))) ([]) .fin) .fin)
def yY (M:Mo) (e:Int) (i:Nat) (b:Bool):aA:=
 (.test (decide ((↑i:Int)<(↑M.gls.length:Int)))
 (.must (aP (↑i:Int) M.gls.length&&true&&true)
 (.must (aO (aq (ajO bn M.gls) (aB i*2+1))&&true)
 (.call ⟨120,[.p (.ps (an (aq (ajO bn M.gls) (aB i*2+1))) (aD (aq (ajO bn M.gls) (aB i*2+1))) (ak (aq (ajO bn M.gls) (aB i*2+1)))),sI .i64 e],[],.p (.sc (.bool b)),[]⟩
 (.test (b)
 gj
 (.at (ah ae env 99 3 [sI .i64 e,.mp 0 0,sI .i64 (re.wrap ((↑i:Int)+1))] ([.pc M.aJ]) 0 70))))))
 (.at (ah ae env 99 6 [sI .i64 e,.mp 0 0,sI .i64 0] ([.pc M.aJ]) 0 70)))
theorem Ca (M:Mo) (e:Int) (i:Nat) (b:Bool):grow ae env VO 1000000 true (ah ae env 99 3 ([sI re e,AV.mp 0 0,sI re (↑i:Int)]) ([bq.pc M.aJ]) 0 70) (ace M e i b) atEnd=yY M e i b:=by kernel_rfl
def VQ:bA:=aM aE aC [(99,6),(99,9)] [(99,0,7),(99,0,8)] [(99,15,3),(99,15,5)]
def acf (M:Mo) (e:Int) (i:Nat) (b:Bool):Sc:=(.fork (.ans 120 (.p (.sc (.bool b))) ([]) .fin) .fin)
def yZ (M:Mo) (e:Int) (i:Nat) (b:Bool):aA:=
 (.test (decide ((↑i:Int)<(↑M.els.length:Int)))
 (.must (aP (↑i:Int) M.els.length&&true&&true)
 (.must (aO (aq (ajO aN M.els) (aB i*2+0))&&true)
 (.call ⟨120,[.p (.ps (an (aq (ajO aN M.els) (aB i*2+0))) (aD (aq (ajO aN M.els) (aB i*2+0))) (ak (aq (ajO aN M.els) (aB i*2+0)))),sI .i64 e],[],.p (.sc (.bool b)),[]⟩
 (.test (b)
 gj
 (.at (ah ae env 99 6 [sI .i64 e,.mp 0 0,sI .i64 (re.wrap ((↑i:Int)+1))] ([.pc M.aJ]) 0 70))))))
 (.at (ah ae env 99 9 [sI .i64 e,.mp 0 0,sI .i64 0] ([.pc M.aJ]) 0 70)))
theorem Cb (M:Mo) (e:Int) (i:Nat) (b:Bool):grow ae env VQ 1000000 true (ah ae env 99 6 ([sI re e,AV.mp 0 0,sI re (↑i:Int)]) ([bq.pc M.aJ]) 0 70) (acf M e i b) atEnd=yZ M e i b:=by kernel_rfl
def VR:bA:=aM aE aC [(99,9)] [(99,0,10),(99,0,11)] [(99,20,3),(99,20,5)]
def acg (M:Mo) (e:Int) (i:Nat) (b:Bool):Sc:=(.fork (.ans 120 (.p (.sc (.bool b))) ([]) .fin) .fin)
def za (M:Mo) (e:Int) (i:Nat) (b:Bool):aA:=
 (.test (decide ((↑i:Int)<(↑M.bp.length:Int)))
 (.must (aP (↑i:Int) M.bp.length&&true&&true)
 (.must (aO (aq (ajO aZ M.bp) (aB i*2+0))&&true)
 (.call ⟨120,[.p (.ps (an (aq (ajO aZ M.bp) (aB i*2+0))) (aD (aq (ajO aZ M.bp) (aB i*2+0))) (ak (aq (ajO aZ M.bp) (aB i*2+0)))),sI .i64 e],[],.p (.sc (.bool b)),[]⟩
 (.test (b)
 gj
 (.at (ah ae env 99 9 [sI .i64 e,.mp 0 0,sI .i64 (re.wrap ((↑i:Int)+1))] ([.pc M.aJ]) 0 70))))))
 (.out (.ret (sB false) [])))
theorem Cc (M:Mo) (e:Int) (i:Nat) (b:Bool):grow ae env VR 1000000 true (ah ae env 99 9 ([sI re e,AV.mp 0 0,sI re (↑i:Int)]) ([bq.pc M.aJ]) 0 70) (acg M e i b) atEnd=za M e i b:=by kernel_rfl
def ach:bA:=aM aE aC [] [] []
def ahj (l:List Ins) (e c:Int):Sc:=(.ans 122 (sI .i64 c) ([]) .fin)
def VS (l:List Ins) (e c:Int):aA:=
 (.call ⟨122,[.p (.ps l.length 8 (aj l))],[],sI .i64 c,[]⟩
 (.out (.ret (.p (.sc (.bool (c==e)))) [])))
theorem RP (l:List Ins) (e c:Int):aI ae env ach 1000000 120 ([AV.p (pL l),sI re e]) ([]) (ahj l e c)=VS l e c:=by kernel_rfl
def aci:bA:=aM aE aC [(48,1)] [(48,2,5),(48,0,0)] []
def ahk:Sc:=(.fork (.lit .fin) .fin)
def KR (M:Mo):aA:=
 (.test (decide ((↑M.b8.length:Int)>1))
 gj
 (.test (decide ((↑M.b9.length:Int)>1))
 gj
 (.at (ah ae env 48 1 [.mp 0 0,sI .i64 0] ([.pc M.aJ]) 0 70))))
theorem RQ (M:Mo):aI ae env aci 1000000 48 ([AV.agg (aeM AV.p M.aJ)]) ([]) ahk=KR M:=by kernel_rfl
def VT:bA:=aM aE aC [(48,1)] [(48,5,6),(48,0,2),(48,0,3),(48,0,6)] [(48,7,3),(48,7,5)]
def acj (M:Mo) (i:Nat) (b:Bool):Sc:=(.fork (.fork .fin (.fork .fin (.fork .fin (.fork .fin (.fork .fin (.fork .fin (.fork .fin (.fork .fin (.ans 99 (.p (.sc (.bool b))) ([]) .fin))))))))) (.lit (.fork .fin (.fork .fin (.fork .fin (.fork .fin (.fork .fin (.fork .fin (.fork .fin (.ans 99 (.p (.sc (.bool b))) ([]) .fin))))))))))
def ni (M:Mo) (b:Bool):aA:=
 (.test (decide ((↑M.tys.length:Int)>16384)) gj (.test (decide ((↑M.aX.length:Int)>16384)) gj (.test (decide ((↑M.fns.length:Int)>16384)) gj (.test (decide ((↑M.gls.length:Int)>16384)) gj (.test (decide ((↑M.exs.length:Int)>16384)) gj (.test (decide ((↑M.els.length:Int)>16384)) gj (.test (decide ((↑M.bp.length:Int)>16384)) gj (.call ⟨99,[.agg (aeM AV.p M.aJ),sI .i64 141],[],.p (.sc (.bool b)),[]⟩ (.out (.ret (.p (.sc (.bool b))) []))))))))))
def zb (M:Mo) (i:Nat) (b:Bool):aA:=
 (.test (decide ((↑i:Int)<(↑M.els.length:Int)))
 (.test (decide ((↑i:Int)≤16384))
 (.must (aP (↑i:Int) M.els.length&&true&&true)
 (.must (aO (aq (ajO aN M.els) (aB i*2+1))&&true)
 (.test (decide ((↑(an (aq (ajO aN M.els) (aB i*2+1))):Int)>16384))
 gj
 (.at (ah ae env 48 1 [.mp 0 0,sI .i64 (re.wrap ((↑i:Int)+1))] ([.pc M.aJ]) 0 70)))))
 (ni M b))
 (ni M b))
theorem Cd (M:Mo) (i:Nat) (b:Bool):grow ae env VT 1000000 true (ah ae env 48 1 ([AV.mp 0 0,sI re (↑i:Int)]) ([bq.pc M.aJ]) 0 70) (acj M i b) atEnd=zb M i b:=by kernel_rfl
def ack:bA:=aM aE aC [(49,0)] [] []
def ahl (M:Mo) (n:Nat) (ns:List PV):Sc:=(.ans 100 (.p (.ps n 1 ns)) ([]) .fin)
def KS (M:Mo) (n:Nat) (ns:List PV):aA:=
 (.call ⟨100,[.agg (aeM AV.p M.aJ)],[],.p (.ps n 1 ns),[]⟩
 (.at (ah ae env 49 0 [.mp 0 0,.p (.ps n 1 ns),sI .i64 0] ([.pc M.aJ]) 0 47)))
theorem RR (M:Mo) (n:Nat) (ns:List PV):aI ae env ack 1000000 49 ([AV.agg (aeM AV.p M.aJ)]) ([]) (ahl M n ns)=KS M n ns:=by kernel_rfl
def VU:bA:=aM aE aC [(49,0),(49,3)] [(49,0,1),(49,0,2)] [(49,6,2),(49,6,3)]
def acm:Sc:= .fin
def zc (M:Mo) (n:Nat) (i:Nat) (ns:List PV):aA:=
 (.test (decide ((↑i:Int)<(↑n:Int)))
 (.must (aP (↑i:Int) n&&true&&true)
 (.must (isStr (aq ns (aB i*1))&&true)
 (.test (decide ((↑(bg (aq ns (aB i*1))).data.toList.length:Int)>1000))
 gj
 (.at (ah ae env 49 0 [.mp 0 0,.p (.ps n 1 ns),sI .i64 (re.wrap ((↑i:Int)+1))] ([.pc M.aJ]) 0 47)))))
 (.at (ah ae env 49 3 [.mp 0 0,sI .i64 0,sI .i64 0] ([.pc M.aJ]) 0 47)))
theorem Ce (M:Mo) (n:Nat) (i:Nat) (ns:List PV):grow ae env VU 1000000 true (ah ae env 49 0 ([AV.mp 0 0,AV.p (PV.ps n 1 ns),sI re (↑i:Int)]) ([bq.pc M.aJ]) 0 47) acm atEnd=zc M n i ns:=by kernel_rfl
def VV:bA:=aM aE aC [(49,3)] [(49,0,4),(49,0,5)] [(49,12,3),(49,12,5),(49,14,4),(49,14,6)]
def acn:Sc:= .fin
def ze (M:Mo) (i:Nat) (sum:Int):aA:=
 (.test (decide ((↑i:Int)<(↑M.bp.length:Int)))
 (.must (aP (↑i:Int) M.bp.length&&true&&true)
 (.must (aO (aq (ajO aZ M.bp) (aB i*2+1))&&true)
 (.test (decide ((↑(an (aq (ajO aZ M.bp) (aB i*2+1))):Int)>re.wrap (1048576-sum)))
 gj
 (.must (aP (↑i:Int) M.bp.length&&true&&true)
 (.must (aO (aq (ajO aZ M.bp) (aB i*2+1))&&true)
 (.at (ah ae env 49 3 [.mp 0 0,sI .i64 (re.wrap (sum+(↑(an (aq (ajO aZ M.bp) (aB i*2+1))):Int))),sI .i64 (re.wrap ((↑i:Int)+1))] ([.pc M.aJ]) 0 47)))))))
 (.out (.ret (sB false) [])))
theorem Cf (M:Mo) (i:Nat) (sum:Int):grow ae env VV 1000000 true (ah ae env 49 3 ([AV.mp 0 0,sI re sum,sI re (↑i:Int)]) ([bq.pc M.aJ]) 0 47) acn atEnd=ze M i sum:=by kernel_rfl
def aco:bA:=aM aE aC [(50,0)] [] []
def ahm:Sc:= .fin
def VW (M:Mo):aA:=
 (.at (ah ae env 50 0 [.mp 0 0,sI .i64 0] ([.pc M.aJ]) 0 76))
theorem RS (M:Mo):aI ae env aco 1000000 50 ([AV.agg (aeM AV.p M.aJ)]) ([]) ahm=VW M:=by kernel_rfl
def VX:bA:=aM aE aC [(50,0),(50,3)] [(50,0,1),(50,0,2)] [(50,5,3),(50,5,4)]
def acp (M:Mo) (i:Nat) (c:Int):Sc:=(.fork (.ans 101 (sI .i64 c) ([]) .fin) .fin)
def zf (M:Mo) (i:Nat) (c:Int):aA:=
 (.test (decide ((↑i:Int)<(↑M.tys.length:Int)))
 (.must (aP (↑i:Int) M.tys.length&&true&&true)
 (.must (isInt re (aq (ajO bK M.tys) (aB i*2))&&(isInt re (aq (ajO bK M.tys) (aB i*2+1))&&true)&&true)
 (.call ⟨101,[.agg [sI .i64 (au (aq (ajO bK M.tys) (aB i*2))),sI .i64 (au (aq (ajO bK M.tys) (aB i*2+1)))]],[],sI .i64 c,[]⟩
 (.test (c != 0)
 (.out (.ret (sB false) []))
 (.at (ah ae env 50 0 [.mp 0 0,sI .i64 (re.wrap ((↑i:Int)+1))] ([.pc M.aJ]) 0 76))))))
 (.at (ah ae env 50 3 [.mp 0 0,sI .i64 0] ([.pc M.aJ]) 0 76)))
theorem Cg (M:Mo) (i:Nat) (c:Int):grow ae env VX 1000000 true (ah ae env 50 0 ([AV.mp 0 0,sI re (↑i:Int)]) ([bq.pc M.aJ]) 0 76) (acp M i c) atEnd=zf M i c:=by kernel_rfl
def VY:bA:=aM aE aC [(50,3),(50,6)] [(50,0,4),(50,10,8),(50,0,5)] [(50,10,3),(50,10,5),(50,10,11),(50,10,13)]
def acq (M:Mo) (i:Nat) (c:Int):Sc:=(.fork (.fork (.lit .fin) .fin) .fin)
def zg (M:Mo) (i:Nat) (c:Int):aA:=
 (.test (decide ((↑i:Int)<(↑M.aX.length:Int)))
 (.must (aP (↑i:Int) M.aX.length&&true&&true)
 (.must (isInt re (aq (ajO bh M.aX) (aB i*3+2))&&true)
 (.test (decide (au (aq (ajO bh M.aX) (aB i*3+2))<0))
 (.out (.ret (sB false) []))
 (.must (aP (↑i:Int) M.aX.length&&true&&true)
 (.must (isInt re (aq (ajO bh M.aX) (aB i*3+2))&&true)
 (.test (decide (au (aq (ajO bh M.aX) (aB i*3+2))>2147483647))
 (.out (.ret (sB false) []))
 (.at (ah ae env 50 3 [.mp 0 0,sI .i64 (re.wrap ((↑i:Int)+1))] ([.pc M.aJ]) 0 76))))))))
 (.at (ah ae env 50 6 [.mp 0 0,sI .i64 0] ([.pc M.aJ]) 0 76)))
theorem Ch (M:Mo) (i:Nat) (c:Int):grow ae env VY 1000000 true (ah ae env 50 3 ([AV.mp 0 0,sI re (↑i:Int)]) ([bq.pc M.aJ]) 0 76) (acq M i c) atEnd=zg M i c:=by kernel_rfl
def VZ:bA:=aM aE aC [(50,6)] [(50,0,7),(50,16,4),(50,16,9),(50,16,15),(50,0,8)] [(50,15,3),(50,15,4)]
def acr (M:Mo) (i:Nat) (c:Int):Sc:=(.fork (.fork (.lit (.lit (.lit .fin))) (.fork (.lit (.lit .fin)) (.fork (.lit .fin) .fin))) .fin)
def zh (M:Mo) (i:Nat) (c:Int):aA:=
 (.test (decide ((↑i:Int)<(↑M.fns.length:Int)))
 (.must (aP (↑i:Int) M.fns.length&&true&&true)
 (.must (isInt re (aq (ajO aG M.fns) (aB i*3))&&(isInt re (aq (ajO aG M.fns) (aB i*3+1))&&(aO (aq (ajO aG M.fns) (aB i*3+1+1))&&true))&&true)
 (.test (decide (au (aq (ajO aG M.fns) (aB i*3))<0))
 (.out (.ret (sB false) []))
 (.test (decide (au (aq (ajO aG M.fns) (aB i*3))>2147483647))
 (.out (.ret (sB false) []))
 (.test (decide (au (aq (ajO aG M.fns) (aB i*3+1))<0))
 (.out (.ret (sB false) []))
 (.test (decide (au (aq (ajO aG M.fns) (aB i*3+1))>50000))
 (.out (.ret (sB false) []))
 (.at (ah ae env 50 6 [.mp 0 0,sI .i64 (re.wrap ((↑i:Int)+1))] ([.pc M.aJ]) 0 76))))))))
 gj)
theorem Ci (M:Mo) (i:Nat) (c:Int):grow ae env VZ 1000000 true (ah ae env 50 6 ([AV.mp 0 0,sI re (↑i:Int)]) ([bq.pc M.aJ]) 0 76) (acr M i c) atEnd=zh M i c:=by kernel_rfl
def acs:bA:=aM aE aC [(51,0)] [] []
def ahn (M:Mo) (n:Nat) (ns:List PV):Sc:=(.ans 100 (.p (.ps n 1 ns)) ([]) .fin)
def KT (M:Mo) (n:Nat) (ns:List PV):aA:=
 (.call ⟨100,[.agg (aeM AV.p M.aJ)],[],.p (.ps n 1 ns),[]⟩
 (.at (ah ae env 51 0 [.mp 0 0,.p (.ps n 1 ns),sI .i64 0] ([.pc M.aJ]) 0 86)))
theorem RT (M:Mo) (n:Nat) (ns:List PV):aI ae env acs 1000000 51 ([AV.agg (aeM AV.p M.aJ)]) ([]) (ahn M n ns)=KT M n ns:=by kernel_rfl
def V0:bA:=aM aE aC [(51,0),(51,3)] [(51,0,1),(51,0,2)] [(51,6,2),(51,6,3)]
def acu (M:Mo) (n:Nat) (i:Nat) (ns:List PV) (c:Int):Sc:=(.fork (.ans 102 (sI .i64 c) ([.tok]) .fin) .fin)
def zi (M:Mo) (n:Nat) (i:Nat) (ns:List PV) (c:Int):aA:=
 (.test (decide ((↑i:Int)<(↑n:Int)))
 (.must (aP (↑i:Int) n&&true&&true)
 (.must (isStr (aq ns (aB i*1))&&true)
 (.call ⟨102,[.os (some 0) (bg (aq ns (aB i*1))).data.toList.length 1 (aeM eE (bg (aq ns (aB i*1))).data.toList)],[.tok],sI .i64 c,[.tok]⟩
 (.test (decide (c≥0))
 (.out (.ret (sB false) []))
 (.at (ah ae env 51 0 [.mp 0 0,.p (.ps n 1 ns),sI .i64 (re.wrap ((↑i:Int)+1))] ([.pc M.aJ]) 0 86))))))
 (.at (ah ae env 51 3 [.mp 0 0,sI .i64 0] ([.pc M.aJ]) 0 86)))
theorem Cj (M:Mo) (n:Nat) (i:Nat) (ns:List PV) (c:Int):grow ae env V0 1000000 true (ah ae env 51 0 ([AV.mp 0 0,AV.p (PV.ps n 1 ns),sI re (↑i:Int)]) ([bq.pc M.aJ]) 0 86) (acu M n i ns c) atEnd=zi M n i ns c:=by kernel_rfl
def V1:bA:=aM aE aC [(51,3),(51,6)] [(51,0,4),(51,0,5)] [(51,11,3),(51,11,4)]
def acv (M:Mo) (i:Nat) (c:Int):Sc:=(.fork (.ans 103 (sI .i64 c) ([]) .fin) .fin)
def zj (M:Mo) (i:Nat) (c:Int):aA:=
 (.test (decide ((↑i:Int)<(↑M.b8.length:Int)))
 (.must (aP (↑i:Int) M.b8.length&&true&&true)
 (.must (isInt aeG (aq (ajO aF M.b8) (aB i*3))&&(isInt aeG (aq (ajO aF M.b8) (aB i*3+1))&&(isBool (aq (ajO aF M.b8) (aB i*3+1+1))&&true))&&true)
 (.call ⟨103,[.agg [sI .u32 (au (aq (ajO aF M.b8) (aB i*3))),sI .u32 (au (aq (ajO aF M.b8) (aB i*3+1))),.p (.sc (.bool (bf (aq (ajO aF M.b8) (aB i*3+1+1)))))],sI .u32 1048576],[],sI .i64 c,[]⟩
 (.test (c != 0)
 (.out (.ret (sB false) []))
 (.at (ah ae env 51 3 [.mp 0 0,sI .i64 (re.wrap ((↑i:Int)+1))] ([.pc M.aJ]) 0 86))))))
 (.at (ah ae env 51 6 [.mp 0 0,sI .i64 0] ([.pc M.aJ]) 0 86)))
theorem Ck (M:Mo) (i:Nat) (c:Int):grow ae env V1 1000000 true (ah ae env 51 3 ([AV.mp 0 0,sI re (↑i:Int)]) ([bq.pc M.aJ]) 0 86) (acv M i c) atEnd=zj M i c:=by kernel_rfl
def V2:bA:=aM aE aC [(51,6),(51,9)] [(51,0,7),(51,0,8)] [(51,16,3),(51,16,4)]
def acw (M:Mo) (i:Nat) (c:Int):Sc:=(.fork (.ans 103 (sI .i64 c) ([]) .fin) .fin)
def zk (M:Mo) (i:Nat) (c:Int):aA:=
 (.test (decide ((↑i:Int)<(↑M.b9.length:Int)))
 (.must (aP (↑i:Int) M.b9.length&&true&&true)
 (.must (isInt aeG (aq (ajO aF M.b9) (aB i*3))&&(isInt aeG (aq (ajO aF M.b9) (aB i*3+1))&&(isBool (aq (ajO aF M.b9) (aB i*3+1+1))&&true))&&true)
 (.call ⟨103,[.agg [sI .u32 (au (aq (ajO aF M.b9) (aB i*3))),sI .u32 (au (aq (ajO aF M.b9) (aB i*3+1))),.p (.sc (.bool (bf (aq (ajO aF M.b9) (aB i*3+1+1)))))],sI .u32 65536],[],sI .i64 c,[]⟩
 (.test (c != 0)
 (.out (.ret (sB false) []))
 (.at (ah ae env 51 6 [.mp 0 0,sI .i64 (re.wrap ((↑i:Int)+1))] ([.pc M.aJ]) 0 86))))))
 (.at (ah ae env 51 9 [.mp 0 0,sI .i64 0] ([.pc M.aJ]) 0 86)))
theorem Cl (M:Mo) (i:Nat) (c:Int):grow ae env V2 1000000 true (ah ae env 51 6 ([AV.mp 0 0,sI re (↑i:Int)]) ([bq.pc M.aJ]) 0 86) (acw M i c) atEnd=zk M i c:=by kernel_rfl
def V3:bA:=aM aE aC [(51,9)] [(51,0,10),(51,21,8),(51,0,11),(51,23,3),(51,23,8)] [(51,21,3),(51,21,5),(51,21,11),(51,21,13)]
def acy (M:Mo) (i:Nat) (b:Bool):Sc:=(.fork (.fork (.lit .fin) .fin) (.fork (.lit (.ans 99 (.p (.sc (.bool b))) ([]) .fin)) (.fork (.ans 99 (.p (.sc (.bool b))) ([]) .fin) .fin)))
def zl (M:Mo) (i:Nat) (b:Bool):aA:=
 (.test (decide ((↑i:Int)<(↑M.exs.length:Int)))
 (.must (aP (↑i:Int) M.exs.length&&true&&true)
 (.must (isInt re (aq (ajO bu M.exs) (aB i*3+1))&&true)
 (.test (decide (au (aq (ajO bu M.exs) (aB i*3+1))<0))
 (.out (.ret (sB false) []))
 (.must (aP (↑i:Int) M.exs.length&&true&&true)
 (.must (isInt re (aq (ajO bu M.exs) (aB i*3+1))&&true)
 (.test (decide (au (aq (ajO bu M.exs) (aB i*3+1))>3))
 (.out (.ret (sB false) []))
 (.at (ah ae env 51 9 [.mp 0 0,sI .i64 (re.wrap ((↑i:Int)+1))] ([.pc M.aJ]) 0 86))))))))
 (.test (M.st)
 (.call ⟨99,[.agg (aeM AV.p M.aJ),sI .i64 2],[],.p (.sc (.bool b)),[]⟩
 (.out (.ret (.p (.sc (.bool !b))) [])))
 (.test (M.sn==0)
 (.call ⟨99,[.agg (aeM AV.p M.aJ),sI .i64 2],[],.p (.sc (.bool b)),[]⟩
 (.out (.ret (.p (.sc (.bool !b))) [])))
 (.out (.ret (sB false) [])))))
theorem Cm (M:Mo) (i:Nat) (b:Bool):grow ae env V3 1000000 true (ah ae env 51 9 ([AV.mp 0 0,sI re (↑i:Int)]) ([bq.pc M.aJ]) 0 86) (acy M i b) atEnd=zl M i b:=by kernel_rfl
def acz:bA:=aM aE aC [] [(101,2,4),(101,2,9),(101,2,14),(101,0,0)] []
def aho:Sc:=(.fork (.lit (.lit (.lit .fin))) (.fork (.lit (.lit .fin)) (.fork (.lit .fin) .fin)))
def KU (p r:Int):aA:=
 (.test (decide (p<0))
 (.out (.ret (sI .i64 2) []))
 (.test (decide (p>255))
 (.out (.ret (sI .i64 2) []))
 (.test (decide (r<0))
 (.out (.ret (sI .i64 2) []))
 (.test (decide (r>1))
 (.out (.ret (sI .i64 2) []))
 (.out (.ret (sI .i64 0) []))))))
theorem RU (p r:Int):aI ae env acz 1000000 101 ([AV.agg [sI re p,sI re r]]) ([]) aho=KU p r:=by kernel_rfl
def acA:bA:=aM aE aC [] [(103,2,5),(103,2,8),(103,2,14),(103,2,22),(103,2,26),(103,0,0)] []
def ahp:Sc:=(.fork (.lit (.lit .fin)) (.fork (.fork (.lit (.lit .fin)) (.fork (.lit .fin) (.no (.lit .fin)))) (.lit (.yes .fin))))
def KV (mn mx:Int) (cap:Bool) (most:Int):aA:=
 (.test (decide (mn>most))
 (.out (.ret (sI .i64 2) []))
 (.test (cap)
 (.test (decide (mx<mn))
 (.out (.ret (sI .i64 2) []))
 (.test (decide (mx>most))
 (.out (.ret (sI .i64 2) []))
 (.must (!(!cap))
 (.out (.ret (sI .i64 0) [])))))
 (.must (!cap)
 (.test (mx != 0)
 (.out (.ret (sI .i64 2) []))
 (.out (.ret (sI .i64 0) []))))))
theorem RV (mn mx:Int) (cap:Bool) (most:Int):aI ae env acA 1000000 103 ([AV.agg [sI aeG mn,sI aeG mx,sB cap],sI aeG most]) ([]) ahp=KV mn mx cap most:=by kernel_rfl
def acB:bA:=aM aE aC [] [(24,0,0),(24,0,1),(24,6,4),(24,0,2)] []
def ahq (M:Mo) (a:Bool) (b:Bool) (c:Bool) (d:Bool):Sc:=(.ans 48 (.p (.sc (.bool a))) ([]) (.fork .fin (.ans 49 (.p (.sc (.bool b))) ([]) (.fork .fin (.ans 50 (.p (.sc (.bool c))) ([]) (.fork (.lit .fin) (.ans 51 (.p (.sc (.bool d))) ([]) .fin)))))))
def KW (M:Mo) (a:Bool) (b:Bool) (c:Bool) (d:Bool):aA:=
 (.call ⟨48,[.agg (aeM AV.p M.aJ)],[],.p (.sc (.bool a)),[]⟩
 (.test (a)
 (.out (.ret (sI .i64 141) []))
 (.call ⟨49,[.agg (aeM AV.p M.aJ)],[],.p (.sc (.bool b)),[]⟩
 (.test (b)
 (.out (.ret (sI .i64 3) []))
 (.call ⟨50,[.agg (aeM AV.p M.aJ)],[],.p (.sc (.bool c)),[]⟩
 (.test (!c)
 (.out (.ret (sI .i64 2) []))
 (.call ⟨51,[.agg (aeM AV.p M.aJ)],[],.p (.sc (.bool d)),[]⟩
 (.test (!d)
 (.out (.ret (sI .i64 2) []))
 (.out (.ret (sI .i64 0) []))))))))))
theorem RW (M:Mo) (a:Bool) (b:Bool) (c:Bool) (d:Bool):aI ae env acB 1000000 24 ([AV.agg (aeM AV.p M.aJ)]) ([]) (ahq M a b c d)=KW M a b c d:=by kernel_rfl
theorem acC {α:Type} {l:List α} {p:α→Bool} {D:Nat→cm} {oT o:Out} {K:Prop}
  (step : ∀(i:Nat) (x:α),l[i]? = some x→(p x=true→oT=o)→(p x=false→aU ae env (D (i+1)) o)→aU ae env (D i) o)
  (fin:K→aU ae env (D l.length) o) :
  ∀(r i:Nat),i+r=l.length→((l.drop i).any p=true→oT=o)→((l.drop i).any p=false→K)→aU ae env (D i) o:=by
 intro r
 induction r with
 |zero=>
  intro i hi _ hK
  obtain rfl:i=l.length:=by omega
  rw[ajU] at hK
  exact fin (hK rfl)
 |succ r ih=>
  intro i hi hT hK
  have hl:i<l.length:=by omega
  rw[agj hl,List.any_cons] at hT hK
  refine step i l[i] (da hl) (fun q=>hT (by rw[q,ake])) fun q=>ih (i+1) (by omega) (fun t=>hT (by rw[q,pb,t])) fun t=>hK (by rw[q,pb,t])
theorem iX {α:Type} {l:List α} {p:α→Bool} {D:Nat→cm} {oT o:Out} {K:Prop}
  (step : ∀(i:Nat) (x:α),l[i]? = some x→(p x=true→oT=o)→(p x=false→aU ae env (D (i+1)) o)→aU ae env (D i) o)
  (fin:K→aU ae env (D l.length) o) (hT:l.any p=true→oT=o) (hK:l.any p=false→K):aU ae env (D 0) o:=
 acC step fin l.length 0 (by omega) (by rwa [aeI]) (by rwa [aeI])
theorem nj (l:List Ins) (e:Int) (h:cg l≤100000000000):az ae env 120 [.p (pL l),sI .i64 e] [] (sB (bT dQ l==e)) []:=
 aa aH (RP l e (bT dQ l)) ⟨uX uW l (Nat.le_trans h (by decide)),rfl⟩
theorem zm (x:Ty):az ae env 101 [.agg ((bK x).map .p)] [] (sI .i64 (vv x)) []:=by
 refine aa aH (RU x.p x.r) ?_
 simp only[KU,aA.ok,decide_eq_true_eq,decide_eq_false_iff_not]
 refine⟨fun q=> ?_,fun q=>⟨fun r=> ?_,fun r=>⟨fun s=> ?_,fun s=>⟨fun t=> ?_,fun t=> ?_⟩⟩⟩⟩
 · rw[vv,if_neg (by omega)]
 · rw[vv,if_neg (by omega)]
 · rw[vv,if_neg (by omega)]
 · rw[vv,if_neg (by omega)]
 · rw[vv,if_pos (by omega)]
theorem sJ (x:Li) (most:Int):az ae env 103 [.agg ((aF x).map .p),sI .u32 most] [] (sI .i64 (yC most x)) []:=by
 refine aa aH (RV x.mn x.mx x.cap most) ?_
 obtain⟨mn,mx,cap⟩:=x
 simp only[KV,aA.ok,yC]
 cases cap with
 |true=>
  refine⟨fun q=> ?_,fun q=>⟨fun _=>⟨fun r=> ?_,fun r=>⟨fun t=> ?_,fun t=>⟨rfl,?_⟩⟩⟩,fun r=>(by cases r)⟩⟩<;>simp only[decide_eq_true_eq,decide_eq_false_iff_not] at *
  · rw[if_pos (.inl q)]
  · rw[if_pos (.inr (.inl ⟨trivial,.inl r⟩))]
  · rw[if_pos (.inr (.inl ⟨trivial,.inr t⟩))]
  · rw[if_neg (by simp;omega)]
 |false=>
  refine⟨fun q=> ?_,fun q=>⟨fun r=>(by cases r),fun _=>⟨rfl,fun r=> ?_,fun r=> ?_⟩⟩⟩
  · simp only[decide_eq_true_eq] at q
    rw[if_pos (.inl q)]
  · rw[if_pos (.inr (.inr ⟨rfl,by simpa using r⟩))]
  · simp only[decide_eq_false_iff_not] at q
    have r:mx=0:=by simpa using r
    rw[if_neg (by simp[r];omega)]
def V4 (M:Mo) (e:Int) (i:Nat):cm:=ah ae env 99 0 [sI .i64 e,.mp 0 0,sI .i64 i] [.pc M.aJ] 0 70
def RX (M:Mo) (e:Int) (i:Nat):cm:=ah ae env 99 3 [sI .i64 e,.mp 0 0,sI .i64 i] [.pc M.aJ] 0 70
def RY (M:Mo) (e:Int) (i:Nat):cm:=ah ae env 99 6 [sI .i64 e,.mp 0 0,sI .i64 i] [.pc M.aJ] 0 70
def RZ (M:Mo) (e:Int) (i:Nat):cm:=ah ae env 99 9 [sI .i64 e,.mp 0 0,sI .i64 i] [.pc M.aJ] 0 70
def rmC (M:Mo) (i:Nat):cm:=ah ae env 48 1 [.mp 0 0,sI .i64 i] [.pc M.aJ] 0 70
def rlC (M:Mo) (l:List ByteArray) (i:Nat):cm:=ah ae env 49 0 [.mp 0 0,.p (.ps l.length 1 (l.flatMap dW)),sI .i64 i] [.pc M.aJ] 0 47
def rlD (M:Mo) (sum:Int) (i:Nat):cm:=ah ae env 49 3 [.mp 0 0,sI .i64 sum,sI .i64 i] [.pc M.aJ] 0 47
def KX (t:Nat) (M:Mo) (i:Nat):cm:=ah ae env 50 t [.mp 0 0,sI .i64 i] [.pc M.aJ] 0 76
def rrC (M:Mo) (l:List ByteArray) (i:Nat):cm:=ah ae env 51 0 [.mp 0 0,.p (.ps l.length 1 (l.flatMap dW)),sI .i64 i] [.pc M.aJ] 0 86
def Jb (t:Nat) (M:Mo) (i:Nat):cm:=ah ae env 51 t [.mp 0 0,sI .i64 i] [.pc M.aJ] 0 86
theorem MF (M:Mo) (hl:M.fns.length≤1000000) (hs : ∀x∈M.fns,cg x.l≤100000000000) (e:Int) (o:Out) (i:Nat) (x:Fu) (hx:M.fns[i]? = some x) (h1:(fun x=>bT dQ x.l==e) x=true→Out.ret (sB true) []=o) (h2:(fun x=>bT dQ x.l==e) x=false→aU ae env (V4 M e (i+1)) o):aU ae env (V4 M e i) o:=by
 have hi:i<M.fns.length:=(dT.1 hx).1
 have hmem:=mv hx
 have c:=aW (z:=3) (enc:=aG) (fun _=>rfl) hx
 have ew:(M.fns.flatMap aG).getD (i*3+1+1) .bz=pL x.l:=c 2 (by decide)
 have eD:(M.fns.flatMap aG).getD (i*3+2) .bz=pL x.l:=c 2 (by decide)
 have w:re.wrap ((i:Int)+1)=((i+1:Nat):Int):=by rw[aQ (by omega) (by omega)];rfl
 have hd:decide ((i:Int)<(M.fns.length:Int))=true:=decide_eq_true (by omega)
 have hin:aP (i:Int) M.fns.length=true:=by simp only[aP,di,decide_eq_true_eq];omega
 refine af aH (B9 M e i (bT dQ x.l==e)) ?_
 simp only[yX,aV,aA.ok,isStr,isInt,aO,isBool,bg,au,bf,an,aD,ak,afm,ajQ,ajX,ew,eD,hd,hin,w]
 refine⟨fun _=> ?_,fun q=>(by cases q)⟩
 exact⟨(by first | rfl | trivial),(by first | rfl | trivial),nj x.l e (hs x hmem),h1,h2⟩
theorem R0 (M:Mo) (hl:M.fns.length≤1000000) (hs : ∀x∈M.fns,cg x.l≤100000000000) (e:Int) (o:Out) (h:aU ae env (RX M e 0) o):aU ae env (V4 M e M.fns.length) o:=by
 have hd:decide ((M.fns.length:Int)<(M.fns.length:Int))=false:=decide_eq_false (by omega)
 refine af aH (B9 M e M.fns.length true) ?_
 simp only[yX,aV,aA.ok,hd]
 refine⟨fun q=>(by cases q),fun _=> ?_⟩
 exact h
theorem MG (M:Mo) (hl:M.gls.length≤1000000) (hs : ∀x∈M.gls,cg x.l≤100000000000) (e:Int) (o:Out) (i:Nat) (x:Gl) (hx:M.gls[i]? = some x) (h1:(fun x=>bT dQ x.l==e) x=true→Out.ret (sB true) []=o) (h2:(fun x=>bT dQ x.l==e) x=false→aU ae env (RX M e (i+1)) o):aU ae env (RX M e i) o:=by
 have hi:i<M.gls.length:=(dT.1 hx).1
 have hmem:=mv hx
 have c:=aW (z:=2) (enc:=bn) (fun _=>rfl) hx
 have ew:(M.gls.flatMap bn).getD (i*2+1) .bz=pL x.l:=c 1 (by decide)
 have w:re.wrap ((i:Int)+1)=((i+1:Nat):Int):=by rw[aQ (by omega) (by omega)];rfl
 have hd:decide ((i:Int)<(M.gls.length:Int))=true:=decide_eq_true (by omega)
 have hin:aP (i:Int) M.gls.length=true:=by simp only[aP,di,decide_eq_true_eq];omega
 refine af aH (Ca M e i (bT dQ x.l==e)) ?_
 simp only[yY,aV,aA.ok,isStr,isInt,aO,isBool,bg,au,bf,an,aD,ak,afm,ajQ,ajX,ew,hd,hin,w]
 refine⟨fun _=> ?_,fun q=>(by cases q)⟩
 exact⟨(by first | rfl | trivial),(by first | rfl | trivial),nj x.l e (hs x hmem),h1,h2⟩
theorem R1 (M:Mo) (hl:M.gls.length≤1000000) (hs : ∀x∈M.gls,cg x.l≤100000000000) (e:Int) (o:Out) (h:aU ae env (RY M e 0) o):aU ae env (RX M e M.gls.length) o:=by
 have hd:decide ((M.gls.length:Int)<(M.gls.length:Int))=false:=decide_eq_false (by omega)
 refine af aH (Ca M e M.gls.length true) ?_
 simp only[yY,aV,aA.ok,hd]
 refine⟨fun q=>(by cases q),fun _=> ?_⟩
 exact h
theorem MH (M:Mo) (hl:M.els.length≤1000000) (hs : ∀x∈M.els,cg x.l≤100000000000) (e:Int) (o:Out) (i:Nat) (x:El) (hx:M.els[i]? = some x) (h1:(fun x=>bT dQ x.l==e) x=true→Out.ret (sB true) []=o) (h2:(fun x=>bT dQ x.l==e) x=false→aU ae env (RY M e (i+1)) o):aU ae env (RY M e i) o:=by
 have hi:i<M.els.length:=(dT.1 hx).1
 have hmem:=mv hx
 have c:=aW (z:=2) (enc:=aN) (fun _=>rfl) hx
 have ew:(M.els.flatMap aN).getD (i*2) .bz=pL x.l:=c 0 (by decide)
 have eD:(M.els.flatMap aN).getD (i*2+0) .bz=pL x.l:=c 0 (by decide)
 have w:re.wrap ((i:Int)+1)=((i+1:Nat):Int):=by rw[aQ (by omega) (by omega)];rfl
 have hd:decide ((i:Int)<(M.els.length:Int))=true:=decide_eq_true (by omega)
 have hin:aP (i:Int) M.els.length=true:=by simp only[aP,di,decide_eq_true_eq];omega
 refine af aH (Cb M e i (bT dQ x.l==e)) ?_
 simp only[yZ,aV,aA.ok,isStr,isInt,aO,isBool,bg,au,bf,an,aD,ak,afm,ajQ,ajX,ew,eD,hd,hin,w]
 refine⟨fun _=> ?_,fun q=>(by cases q)⟩
 exact⟨(by first | rfl | trivial),(by first | rfl | trivial),nj x.l e (hs x hmem),h1,h2⟩
theorem R2 (M:Mo) (hl:M.els.length≤1000000) (hs : ∀x∈M.els,cg x.l≤100000000000) (e:Int) (o:Out) (h:aU ae env (RZ M e 0) o):aU ae env (RY M e M.els.length) o:=by
 have hd:decide ((M.els.length:Int)<(M.els.length:Int))=false:=decide_eq_false (by omega)
 refine af aH (Cb M e M.els.length true) ?_
 simp only[yZ,aV,aA.ok,hd]
 refine⟨fun q=>(by cases q),fun _=> ?_⟩
 exact h
theorem MI (M:Mo) (hl:M.bp.length≤1000000) (hs : ∀x∈M.bp,cg x.l≤100000000000) (e:Int) (o:Out) (i:Nat) (x:Da) (hx:M.bp[i]? = some x) (h1:(fun x=>bT dQ x.l==e) x=true→Out.ret (sB true) []=o) (h2:(fun x=>bT dQ x.l==e) x=false→aU ae env (RZ M e (i+1)) o):aU ae env (RZ M e i) o:=by
 have hi:i<M.bp.length:=(dT.1 hx).1
 have hmem:=mv hx
 have c:=aW (z:=2) (enc:=aZ) (fun _=>rfl) hx
 have ew:(M.bp.flatMap aZ).getD (i*2) .bz=pL x.l:=c 0 (by decide)
 have eD:(M.bp.flatMap aZ).getD (i*2+0) .bz=pL x.l:=c 0 (by decide)
 have w:re.wrap ((i:Int)+1)=((i+1:Nat):Int):=by rw[aQ (by omega) (by omega)];rfl
 have hd:decide ((i:Int)<(M.bp.length:Int))=true:=decide_eq_true (by omega)
 have hin:aP (i:Int) M.bp.length=true:=by simp only[aP,di,decide_eq_true_eq];omega
 refine af aH (Cc M e i (bT dQ x.l==e)) ?_
 simp only[za,aV,aA.ok,isStr,isInt,aO,isBool,bg,au,bf,an,aD,ak,afm,ajQ,ajX,ew,eD,hd,hin,w]
 refine⟨fun _=> ?_,fun q=>(by cases q)⟩
 exact⟨(by first | rfl | trivial),(by first | rfl | trivial),nj x.l e (hs x hmem),h1,h2⟩
theorem R3 (M:Mo) (hl:M.bp.length≤1000000) (hs : ∀x∈M.bp,cg x.l≤100000000000) (e:Int) (o:Out) (h:Out.ret (sB false) []=o):aU ae env (RZ M e M.bp.length) o:=by
 have hd:decide ((M.bp.length:Int)<(M.bp.length:Int))=false:=decide_eq_false (by omega)
 refine af aH (Cc M e M.bp.length true) ?_
 simp only[za,aV,aA.ok,hd]
 refine⟨fun q=>(by cases q),fun _=> ?_⟩
 exact h
theorem R4 (M:Mo) (hl:M.els.length≤5000) (o:Out) (i:Nat) (x:El) (hx:M.els[i]? = some x) (h1:BH x=true→Out.ret (sB true) []=o) (h2:BH x=false→aU ae env (rmC M (i+1)) o):aU ae env (rmC M i) o:=by
 have hi:i<M.els.length:=(dT.1 hx).1
 have hmem:=mv hx
 have c:=aW (z:=2) (enc:=aN) (fun _=>rfl) hx
 have ew:(M.els.flatMap aN).getD (i*2+1) .bz=pT .u32 x.fs:=c 1 (by decide)
 have w:re.wrap ((i:Int)+1)=((i+1:Nat):Int):=by rw[aQ (by omega) (by omega)];rfl
 have hd:decide ((i:Int)<(M.els.length:Int))=true:=decide_eq_true (by omega)
 have hin:aP (i:Int) M.els.length=true:=by simp only[aP,di,decide_eq_true_eq];omega
 refine af aH (Cd M i true) ?_
 simp only[zb,ni,aV,aA.ok,isStr,isInt,aO,isBool,bg,au,bf,an,aD,ak,afm,ajQ,ajX,ew,hd,hin,w]
 refine⟨fun _=> ?_,fun q=>(by cases q)⟩
 have e1:decide ((i:Int)≤16384)=true:=decide_eq_true (by omega)
 simp only[e1]
 refine⟨fun _=>⟨(by first | rfl | trivial),(by first | rfl | trivial),h1,h2⟩,fun q=>(by cases q)⟩
theorem V5 (M:Mo) (hl:M.els.length≤5000) (o:Out) (h:(∀(q : ¬(max (max (max (max (max (max (M.tys.length:Int) M.aX.length) M.fns.length) M.gls.length) M.exs.length) M.els.length) M.bp.length>16384)),az ae env 99 [.agg (M.aJ.map .p),sI .i64 141] [] (sB (hU M 141)) [])∧((max (max (max (max (max (max (M.tys.length:Int) M.aX.length) M.fns.length) M.gls.length) M.exs.length) M.els.length) M.bp.length>16384)→Out.ret (sB true) []=o)∧(¬(max (max (max (max (max (max (M.tys.length:Int) M.aX.length) M.fns.length) M.gls.length) M.exs.length) M.els.length) M.bp.length>16384)→Out.ret (sB (hU M 141)) []=o)):aU ae env (rmC M M.els.length) o:=by
 have hd:decide ((M.els.length:Int)<(M.els.length:Int))=false:=decide_eq_false (by omega)
 refine af aH (Cd M M.els.length (hU M 141)) ?_
 simp only[zb,ni,aV,aA.ok,hd]
 refine⟨fun q=>(by cases q),fun _=> ?_⟩
 simp only[decide_eq_true_eq,decide_eq_false_iff_not]
 exact⟨fun q=>h.2.1 (by omega),fun q1=>⟨fun q=>h.2.1 (by omega),fun q2=>⟨fun q=>h.2.1 (by omega),fun q3=>⟨fun q=>h.2.1 (by omega),fun q4=>⟨fun q=>h.2.1 (by omega),fun q5=>⟨fun q=>h.2.1 (by omega),fun q6=>⟨fun q=>h.2.1 (by omega),fun q7=>⟨h.1 (by omega),h.2.2 (by omega)⟩⟩⟩⟩⟩⟩⟩⟩
theorem R5 (M:Mo) (l:List ByteArray) (hl:l.length≤10000000) (o:Out) (i:Nat) (x:ByteArray) (hx:l[i]? = some x) (h1:BI x=true→Out.ret (sB true) []=o) (h2:BI x=false→aU ae env (rlC M l (i+1)) o):aU ae env (rlC M l i) o:=by
 have hi:i<l.length:=(dT.1 hx).1
 have hmem:=mv hx
 have c:=aW (z:=1) (enc:=dW) (fun _=>rfl) hx
 have ew:(l.flatMap dW).getD (i*1) .bz = .sc (.string x):=c 0 (by decide)
 have eD:(l.flatMap dW).getD (i*1+0) .bz = .sc (.string x):=c 0 (by decide)
 have w:re.wrap ((i:Int)+1)=((i+1:Nat):Int):=by rw[aQ (by omega) (by omega)];rfl
 have hd:decide ((i:Int)<(l.length:Int))=true:=decide_eq_true (by omega)
 have hin:aP (i:Int) l.length=true:=by simp only[aP,di,decide_eq_true_eq];omega
 refine af aH (Ce M l.length i (l.flatMap dW)) ?_
 simp only[zc,aV,aA.ok,isStr,isInt,aO,isBool,bg,au,bf,an,aD,ak,afm,ajQ,ajX,ew,eD,hd,hin,w]
 refine⟨fun _=> ?_,fun q=>(by cases q)⟩
 exact⟨(by first | rfl | trivial),(by first | rfl | trivial),h1,h2⟩
theorem V6 (M:Mo) (l:List ByteArray) (hl:l.length≤10000000) (o:Out) (h:aU ae env (ah ae env 49 3 [.mp 0 0,sI .i64 0,sI .i64 0] [.pc M.aJ] 0 47) o):aU ae env (rlC M l l.length) o:=by
 have hd:decide ((l.length:Int)<(l.length:Int))=false:=decide_eq_false (by omega)
 refine af aH (Ce M l.length l.length (l.flatMap dW)) ?_
 simp only[zc,aV,aA.ok,hd]
 refine⟨fun q=>(by cases q),fun _=> ?_⟩
 exact h
theorem MJ (M:Mo) (hl:M.tys.length≤1000000) (o:Out) (i:Nat) (x:Ty) (hx:M.tys[i]? = some x) (h1:vw x=true→Out.ret (sB false) []=o) (h2:vw x=false→aU ae env (KX 0 M (i+1)) o):aU ae env (KX 0 M i) o:=by
 have hi:i<M.tys.length:=(dT.1 hx).1
 have hmem:=mv hx
 have c:=aW (z:=2) (enc:=bK) (fun _=>rfl) hx
 have ew:(M.tys.flatMap bK).getD (i*2) .bz = .sc (.int .i64 x.p):=c 0 (by decide)
 have eD:(M.tys.flatMap bK).getD (i*2+0) .bz = .sc (.int .i64 x.p):=c 0 (by decide)
 have gq:(M.tys.flatMap bK).getD (i*2+1) .bz = .sc (.int .i64 x.r):=c 1 (by decide)
 have w:re.wrap ((i:Int)+1)=((i+1:Nat):Int):=by rw[aQ (by omega) (by omega)];rfl
 have hd:decide ((i:Int)<(M.tys.length:Int))=true:=decide_eq_true (by omega)
 have hin:aP (i:Int) M.tys.length=true:=by simp only[aP,di,decide_eq_true_eq];omega
 refine af aH (Cg M i (vv x)) ?_
 simp only[zf,aV,aA.ok,isStr,isInt,aO,isBool,bg,au,bf,an,aD,ak,afm,ajQ,ajX,ew,eD,gq,hd,hin,w]
 refine⟨fun _=> ?_,fun q=>(by cases q)⟩
 exact⟨(by first | rfl | trivial),(by first | rfl | trivial),zm x,h1,h2⟩
theorem R6 (M:Mo) (hl:M.tys.length≤1000000) (o:Out) (h:aU ae env (KX 3 M 0) o):aU ae env (KX 0 M M.tys.length) o:=by
 have hd:decide ((M.tys.length:Int)<(M.tys.length:Int))=false:=decide_eq_false (by omega)
 refine af aH (Cg M M.tys.length 0) ?_
 simp only[zf,aV,aA.ok,hd]
 refine⟨fun q=>(by cases q),fun _=> ?_⟩
 exact h
theorem MK (M:Mo) (hl:M.aX.length≤1000000) (o:Out) (i:Nat) (x:Im) (hx:M.aX[i]? = some x) (h1:sy x=true→Out.ret (sB false) []=o) (h2:sy x=false→aU ae env (KX 3 M (i+1)) o):aU ae env (KX 3 M i) o:=by
 have hi:i<M.aX.length:=(dT.1 hx).1
 have hmem:=mv hx
 have c:=aW (z:=3) (enc:=bh) (fun _=>rfl) hx
 have ew:(M.aX.flatMap bh).getD (i*3+1+1) .bz = .sc (.int .i64 x.ty):=c 2 (by decide)
 have eD:(M.aX.flatMap bh).getD (i*3+2) .bz = .sc (.int .i64 x.ty):=c 2 (by decide)
 have w:re.wrap ((i:Int)+1)=((i+1:Nat):Int):=by rw[aQ (by omega) (by omega)];rfl
 have hd:decide ((i:Int)<(M.aX.length:Int))=true:=decide_eq_true (by omega)
 have hin:aP (i:Int) M.aX.length=true:=by simp only[aP,di,decide_eq_true_eq];omega
 refine af aH (Ch M i 0) ?_
 simp only[zg,aV,aA.ok,isStr,isInt,aO,isBool,bg,au,bf,an,aD,ak,afm,ajQ,ajX,ew,eD,hd,hin,w]
 refine⟨fun _=> ?_,fun q=>(by cases q)⟩
 refine⟨(by first | rfl | trivial),(by first | rfl | trivial),fun q=>h1 ?_,fun q=>⟨(by first | rfl | trivial),(by first | rfl | trivial),fun r=>h1 ?_,fun r=>h2 ?_⟩⟩<;>simp only[decide_eq_true_eq,decide_eq_false_iff_not] at * <;> simp[sy]<;>omega
theorem R7 (M:Mo) (hl:M.aX.length≤1000000) (o:Out) (h:aU ae env (KX 6 M 0) o):aU ae env (KX 3 M M.aX.length) o:=by
 have hd:decide ((M.aX.length:Int)<(M.aX.length:Int))=false:=decide_eq_false (by omega)
 refine af aH (Ch M M.aX.length 0) ?_
 simp only[zg,aV,aA.ok,hd]
 refine⟨fun q=>(by cases q),fun _=> ?_⟩
 exact h
theorem ML (M:Mo) (hl:M.fns.length≤1000000) (o:Out) (i:Nat) (x:Fu) (hx:M.fns[i]? = some x) (h1:sA x=true→Out.ret (sB false) []=o) (h2:sA x=false→aU ae env (KX 6 M (i+1)) o):aU ae env (KX 6 M i) o:=by
 have hi:i<M.fns.length:=(dT.1 hx).1
 have hmem:=mv hx
 have c:=aW (z:=3) (enc:=aG) (fun _=>rfl) hx
 have ew:(M.fns.flatMap aG).getD (i*3) .bz = .sc (.int .i64 x.ty):=c 0 (by decide)
 have eD:(M.fns.flatMap aG).getD (i*3+0) .bz = .sc (.int .i64 x.ty):=c 0 (by decide)
 have gq:(M.fns.flatMap aG).getD (i*3+1) .bz = .sc (.int .i64 x.lo):=c 1 (by decide)
 have nk:(M.fns.flatMap aG).getD (i*3+1+1) .bz=pL x.l:=c 2 (by decide)
 have nq:(M.fns.flatMap aG).getD (i*3+2) .bz=pL x.l:=c 2 (by decide)
 have w:re.wrap ((i:Int)+1)=((i+1:Nat):Int):=by rw[aQ (by omega) (by omega)];rfl
 have hd:decide ((i:Int)<(M.fns.length:Int))=true:=decide_eq_true (by omega)
 have hin:aP (i:Int) M.fns.length=true:=by simp only[aP,di,decide_eq_true_eq];omega
 refine af aH (Ci M i 0) ?_
 simp only[zh,aV,aA.ok,isStr,isInt,aO,isBool,bg,au,bf,an,aD,ak,afm,ajQ,ajX,ew,eD,gq,nk,nq,hd,hin,w]
 refine⟨fun _=> ?_,fun q=>(by cases q)⟩
 refine⟨(by first | rfl | trivial),(by first | rfl | trivial),fun q=>h1 ?_,fun q=>⟨fun r=>h1 ?_,fun r=>⟨fun s=>h1 ?_,fun s=>⟨fun t=>h1 ?_,fun t=>h2 ?_⟩⟩⟩⟩<;>simp only[decide_eq_true_eq,decide_eq_false_iff_not] at * <;> simp[sA]<;>omega
theorem R8 (M:Mo) (hl:M.fns.length≤1000000) (o:Out) (h:Out.ret (sB true) []=o):aU ae env (KX 6 M M.fns.length) o:=by
 have hd:decide ((M.fns.length:Int)<(M.fns.length:Int))=false:=decide_eq_false (by omega)
 refine af aH (Ci M M.fns.length 0) ?_
 simp only[zh,aV,aA.ok,hd]
 refine⟨fun q=>(by cases q),fun _=> ?_⟩
 exact h
theorem MM (M:Mo) (l:List ByteArray) (hl:l.length≤10000000) (hb : ∀x∈l,az ae env 102 [.p (.ps x.data.toList.length 1 (x.data.toList.map eE))] [] (sI .i64 (jZ x)) []) (o:Out) (i:Nat) (x:ByteArray) (hx:l[i]? = some x) (h1:yM x=true→Out.ret (sB false) []=o) (h2:yM x=false→aU ae env (rrC M l (i+1)) o):aU ae env (rrC M l i) o:=by
 have hi:i<l.length:=(dT.1 hx).1
 have hmem:=mv hx
 have c:=aW (z:=1) (enc:=dW) (fun _=>rfl) hx
 have ew:(l.flatMap dW).getD (i*1) .bz = .sc (.string x):=c 0 (by decide)
 have eD:(l.flatMap dW).getD (i*1+0) .bz = .sc (.string x):=c 0 (by decide)
 have w:re.wrap ((i:Int)+1)=((i+1:Nat):Int):=by rw[aQ (by omega) (by omega)];rfl
 have hd:decide ((i:Int)<(l.length:Int))=true:=decide_eq_true (by omega)
 have hin:aP (i:Int) l.length=true:=by simp only[aP,di,decide_eq_true_eq];omega
 refine af aH (Cj M l.length i (l.flatMap dW) (jZ x)) ?_
 simp only[zi,aV,aA.ok,isStr,isInt,aO,isBool,bg,au,bf,an,aD,ak,afm,ajQ,ajX,ew,eD,hd,hin,w]
 refine⟨fun _=> ?_,fun q=>(by cases q)⟩
 exact⟨(by first | rfl | trivial),(by first | rfl | trivial),az.Uh (m:=[.tok]) (args:=[.os (some 0) x.data.toList.length 1 (x.data.toList.map eE)]) (hb x hmem) ⟨Tv.os (.refl _),trivial⟩,h1,h2⟩
theorem R9 (M:Mo) (l:List ByteArray) (hl:l.length≤10000000) (hb : ∀x∈l,az ae env 102 [.p (.ps x.data.toList.length 1 (x.data.toList.map eE))] [] (sI .i64 (jZ x)) []) (o:Out) (h:aU ae env (Jb 3 M 0) o):aU ae env (rrC M l l.length) o:=by
 have hd:decide ((l.length:Int)<(l.length:Int))=false:=decide_eq_false (by omega)
 refine af aH (Cj M l.length l.length (l.flatMap dW) 0) ?_
 simp only[zi,aV,aA.ok,hd]
 refine⟨fun q=>(by cases q),fun _=> ?_⟩
 exact h
theorem MN (M:Mo) (hl:M.b8.length≤1000000) (o:Out) (i:Nat) (x:Li) (hx:M.b8[i]? = some x) (h1:jT 1048576 x=true→Out.ret (sB false) []=o) (h2:jT 1048576 x=false→aU ae env (Jb 3 M (i+1)) o):aU ae env (Jb 3 M i) o:=by
 have hi:i<M.b8.length:=(dT.1 hx).1
 have hmem:=mv hx
 have c:=aW (z:=3) (enc:=aF) (fun _=>rfl) hx
 have ew:(M.b8.flatMap aF).getD (i*3) .bz = .sc (.int .u32 x.mn):=c 0 (by decide)
 have eD:(M.b8.flatMap aF).getD (i*3+0) .bz = .sc (.int .u32 x.mn):=c 0 (by decide)
 have gq:(M.b8.flatMap aF).getD (i*3+1) .bz = .sc (.int .u32 x.mx):=c 1 (by decide)
 have nk:(M.b8.flatMap aF).getD (i*3+1+1) .bz = .sc (.bool x.cap):=c 2 (by decide)
 have nq:(M.b8.flatMap aF).getD (i*3+2) .bz = .sc (.bool x.cap):=c 2 (by decide)
 have w:re.wrap ((i:Int)+1)=((i+1:Nat):Int):=by rw[aQ (by omega) (by omega)];rfl
 have hd:decide ((i:Int)<(M.b8.length:Int))=true:=decide_eq_true (by omega)
 have hin:aP (i:Int) M.b8.length=true:=by simp only[aP,di,decide_eq_true_eq];omega
 refine af aH (Ck M i (yC 1048576 x)) ?_
 simp only[zj,aV,aA.ok,isStr,isInt,aO,isBool,bg,au,bf,an,aD,ak,afm,ajQ,ajX,ew,eD,gq,nk,nq,hd,hin,w]
 refine⟨fun _=> ?_,fun q=>(by cases q)⟩
 exact⟨(by first | rfl | trivial),(by first | rfl | trivial),sJ x _,h1,h2⟩
theorem Sa (M:Mo) (hl:M.b8.length≤1000000) (o:Out) (h:aU ae env (Jb 6 M 0) o):aU ae env (Jb 3 M M.b8.length) o:=by
 have hd:decide ((M.b8.length:Int)<(M.b8.length:Int))=false:=decide_eq_false (by omega)
 refine af aH (Ck M M.b8.length 0) ?_
 simp only[zj,aV,aA.ok,hd]
 refine⟨fun q=>(by cases q),fun _=> ?_⟩
 exact h
theorem MO (M:Mo) (hl:M.b9.length≤1000000) (o:Out) (i:Nat) (x:Li) (hx:M.b9[i]? = some x) (h1:jT 65536 x=true→Out.ret (sB false) []=o) (h2:jT 65536 x=false→aU ae env (Jb 6 M (i+1)) o):aU ae env (Jb 6 M i) o:=by
 have hi:i<M.b9.length:=(dT.1 hx).1
 have hmem:=mv hx
 have c:=aW (z:=3) (enc:=aF) (fun _=>rfl) hx
 have ew:(M.b9.flatMap aF).getD (i*3) .bz = .sc (.int .u32 x.mn):=c 0 (by decide)
 have eD:(M.b9.flatMap aF).getD (i*3+0) .bz = .sc (.int .u32 x.mn):=c 0 (by decide)
 have gq:(M.b9.flatMap aF).getD (i*3+1) .bz = .sc (.int .u32 x.mx):=c 1 (by decide)
 have nk:(M.b9.flatMap aF).getD (i*3+1+1) .bz = .sc (.bool x.cap):=c 2 (by decide)
 have nq:(M.b9.flatMap aF).getD (i*3+2) .bz = .sc (.bool x.cap):=c 2 (by decide)
 have w:re.wrap ((i:Int)+1)=((i+1:Nat):Int):=by rw[aQ (by omega) (by omega)];rfl
 have hd:decide ((i:Int)<(M.b9.length:Int))=true:=decide_eq_true (by omega)
 have hin:aP (i:Int) M.b9.length=true:=by simp only[aP,di,decide_eq_true_eq];omega
 refine af aH (Cl M i (yC 65536 x)) ?_
 simp only[zk,aV,aA.ok,isStr,isInt,aO,isBool,bg,au,bf,an,aD,ak,afm,ajQ,ajX,ew,eD,gq,nk,nq,hd,hin,w]
 refine⟨fun _=> ?_,fun q=>(by cases q)⟩
 exact⟨(by first | rfl | trivial),(by first | rfl | trivial),sJ x _,h1,h2⟩
theorem Sb (M:Mo) (hl:M.b9.length≤1000000) (o:Out) (h:aU ae env (Jb 9 M 0) o):aU ae env (Jb 6 M M.b9.length) o:=by
 have hd:decide ((M.b9.length:Int)<(M.b9.length:Int))=false:=decide_eq_false (by omega)
 refine af aH (Cl M M.b9.length 0) ?_
 simp only[zk,aV,aA.ok,hd]
 refine⟨fun q=>(by cases q),fun _=> ?_⟩
 exact h
theorem MP (M:Mo) (hl:M.exs.length≤1000000) (hi:az ae env 99 [.agg (M.aJ.map .p),sI .i64 2] [] (sB (hU M 2)) []) (o:Out) (i:Nat) (x:Ex) (hx:M.exs[i]? = some x) (h1:sC x=true→Out.ret (sB false) []=o) (h2:sC x=false→aU ae env (Jb 9 M (i+1)) o):aU ae env (Jb 9 M i) o:=by
 have hi:i<M.exs.length:=(dT.1 hx).1
 have hmem:=mv hx
 have c:=aW (z:=3) (enc:=bu) (fun _=>rfl) hx
 have ew:(M.exs.flatMap bu).getD (i*3+1) .bz = .sc (.int .i64 x.kind):=c 1 (by decide)
 have w:re.wrap ((i:Int)+1)=((i+1:Nat):Int):=by rw[aQ (by omega) (by omega)];rfl
 have hd:decide ((i:Int)<(M.exs.length:Int))=true:=decide_eq_true (by omega)
 have hin:aP (i:Int) M.exs.length=true:=by simp only[aP,di,decide_eq_true_eq];omega
 refine af aH (Cm M i true) ?_
 simp only[zl,aV,aA.ok,isStr,isInt,aO,isBool,bg,au,bf,an,aD,ak,afm,ajQ,ajX,ew,hd,hin,w]
 refine⟨fun _=> ?_,fun q=>(by cases q)⟩
 refine⟨(by first | rfl | trivial),(by first | rfl | trivial),fun q=>h1 ?_,fun q=>⟨(by first | rfl | trivial),(by first | rfl | trivial),fun r=>h1 ?_,fun r=>h2 ?_⟩⟩<;>simp only[decide_eq_true_eq,decide_eq_false_iff_not] at * <;> simp[sC]<;>omega
theorem Sd (M:Mo) (hl:M.exs.length≤1000000) (hi:az ae env 99 [.agg (M.aJ.map .p),sI .i64 2] [] (sB (hU M 2)) []) (o:Out) (h:Out.ret (sB ((M.st||M.sn==0) && !hU M 2)) []=o):aU ae env (Jb 9 M M.exs.length) o:=by
 have hd:decide ((M.exs.length:Int)<(M.exs.length:Int))=false:=decide_eq_false (by omega)
 refine af aH (Cm M M.exs.length (hU M 2)) ?_
 simp only[zl,aV,aA.ok,hd]
 refine⟨fun q=>(by cases q),fun _=> ?_⟩
 refine⟨fun q=>⟨hi,?_⟩,fun q=>⟨fun r=>⟨hi,?_⟩,fun r=> ?_⟩⟩
 · rw[q,ake,ajX] at h;exact h
 · rw[q,r,pb,ajX] at h;exact h
 · rw[q,r,pb,Bool.false_and] at h;exact h
theorem V7 {α β:Type} (f:α→β) (p:β→Bool) (l:List α):(l.map f).any p=l.any fun x=>p (f x):=by rw[List.any_map];rfl
theorem V8 (M:Mo) (e:Int):hU M e=(M.fns.any (fun x=>bT dQ x.l==e)||M.gls.any (fun x=>bT dQ x.l==e)||M.els.any (fun x=>bT dQ x.l==e)||M.bp.any (fun x=>bT dQ x.l==e)):=by
 simp only[hU,I6,List.any_append,V7]
theorem V9 {M:Mo} (hs:M.uq):(∀x∈M.fns,cg x.l≤100000000000)∧(∀x∈M.gls,cg x.l≤100000000000)∧(∀x∈M.els,cg x.l≤100000000000)∧(∀x∈M.bp,cg x.l≤100000000000):=by
 refine⟨fun x hx=>hs _ ?_,fun x hx=>hs _ ?_,fun x hx=>hs _ ?_,fun x hx=>hs _ ?_⟩<;>simp only[I6,List.mem_append,List.mem_map]
 · exact .inl (.inl (.inl ⟨x,hx,rfl⟩))
 · exact .inl (.inl (.inr ⟨x,hx,rfl⟩))
 · exact .inl (.inr ⟨x,hx,rfl⟩)
 · exact .inr ⟨x,hx,rfl⟩
theorem sK (M:Mo) (hM:M.fit) (hs:M.uq) (e:Int):az ae env 99 [.agg (M.aJ.map .p),sI .i64 e] [] (sB (hU M e)) []:=by
 obtain⟨s1,s2,s3,s4⟩:=V9 hs
 refine aa aH (RO M e) ?_
 rw[V8]
 refine iX (D:=V4 M e) (fun i x=>MF M hM.fns s1 e _ i x) (R0 M hM.fns s1 e _) (fun q=>by rw[q];rfl) fun q1=> ?_
 refine iX (D:=RX M e) (fun i x=>MG M hM.gls s2 e _ i x) (R1 M hM.gls s2 e _) (fun q=>by rw[q,aki];rfl) fun q2=> ?_
 refine iX (D:=RY M e) (fun i x=>MH M hM.els s3 e _ i x) (R2 M hM.els s3 e _) (fun q=>by rw[q,aki];rfl) fun q3=> ?_
 refine iX (D:=RZ M e) (fun i x=>MI M hM.bp s4 e _ i x) (R3 M hM.bp s4 e _) (fun q=>by rw[q,aki]) fun q4=> ?_
 rw[q1,q2,q3,q4];rfl
def N2 (t:Nat) (M:Mo) (a:List PV) (i:Nat):cm:=
 if a=[] then ah ae env 100 t [.mp 0 0,.os none 0 0 [],sI .i64 i] [.pc M.aJ] 0 45
 else ah ae env 100 t [.mp 0 0,.os (some 1) a.length 1 a,sI .i64 i] [.pc M.aJ,.tok] 0 45
theorem MQ (M:Mo) (hl:M.aX.length≤1000000) (o:Out) (a:List PV) (i:Nat) (x:Im) (hx:M.aX[i]? = some x) (hB:(a++Me x).length≤10000000) (h:aU ae env (N2 0 M (a++Me x) (i+1)) o):aU ae env (N2 0 M a i) o:=by
 have hi:i<M.aX.length:=(dT.1 hx).1
 have c:=aW (z:=3) (enc:=bh) (fun _=>rfl) hx
 have c0:(M.aX.flatMap bh).getD (i*3+0) .bz = .sc (.string x.mo):=c 0 (by decide)
 have c1:(M.aX.flatMap bh).getD (i*3+1) .bz = .sc (.string x.nm):=c 1 (by decide)
 have hL:=DF
 have w:re.wrap ((i:Int)+1)=((i+1:Nat):Int):=by rw[aQ (by omega) (by omega)];rfl
 have hd:decide ((i:Int)<(M.aX.length:Int))=true:=decide_eq_true (by omega)
 have hin:aP (i:Int) M.aX.length=true:=by simp only[aP,di,decide_eq_true_eq];omega
 unfold N2 at h ⊢
 by_cases e:a=[]
 · subst e
   rw[if_neg (by simp[Me]),Hm] at h
   rw[if_pos rfl]
   refine af aH (B5 M 0 i []) ?_
   simp only[yT,aV,aA.ok,isStr,bg,afm,c0,c1,hd,hin,w,ajQ,ajX]
   exact⟨fun _=>⟨(by first | rfl | trivial),h⟩,fun q=>(by cases q)⟩
 · rw[if_neg (by simp[e])] at h
   rw[if_neg e]
   refine af aH (B6 M a.length i a) ?_
   rw[dC] at h hB
   have hB:a.length+2≤10000000:=hB
   simp only[yU,aV,aA.ok,isStr,bg,afm,c0,c1,hd,hin,w,ajQ,ajX]
   exact⟨fun _=>⟨(by simp only[di,Nat.ble_eq];omega),h⟩,fun q=>(by cases q)⟩
theorem Se (M:Mo) (o:Out) (a:List PV) (h:aU ae env (N2 2 M a 0) o):aU ae env (N2 0 M a M.aX.length) o:=by
 have hd:decide ((M.aX.length:Int)<(M.aX.length:Int))=false:=decide_eq_false (by omega)
 unfold N2 at h ⊢
 by_cases e:a=[]
 · subst e
   rw[if_pos rfl] at h ⊢
   refine af aH (B5 M 0 M.aX.length []) ?_
   simp only[yT,aV,aA.ok,hd]
   exact⟨fun q=>(by cases q),fun _=>h⟩
 · rw[if_neg e] at h ⊢
   refine af aH (B6 M a.length M.aX.length a) ?_
   simp only[yU,aV,aA.ok,hd]
   exact⟨fun q=>(by cases q),fun _=>h⟩
theorem MR (M:Mo) (hl:M.exs.length≤1000000) (o:Out) (a:List PV) (i:Nat) (x:Ex) (hx:M.exs[i]? = some x) (hB:(a++TA x).length≤10000000) (h:aU ae env (N2 2 M (a++TA x) (i+1)) o):aU ae env (N2 2 M a i) o:=by
 have hi:i<M.exs.length:=(dT.1 hx).1
 have c:=aW (z:=3) (enc:=bu) (fun _=>rfl) hx
 have c0:(M.exs.flatMap bu).getD (i*3+0) .bz = .sc (.string x.nm):=c 0 (by decide)
 have hL:=DF
 have w:re.wrap ((i:Int)+1)=((i+1:Nat):Int):=by rw[aQ (by omega) (by omega)];rfl
 have hd:decide ((i:Int)<(M.exs.length:Int))=true:=decide_eq_true (by omega)
 have hin:aP (i:Int) M.exs.length=true:=by simp only[aP,di,decide_eq_true_eq];omega
 unfold N2 at h ⊢
 by_cases e:a=[]
 · subst e
   rw[if_neg (by simp[TA]),Hm] at h
   rw[if_pos rfl]
   refine af aH (B7 M 0 i []) ?_
   simp only[yV,aV,aA.ok,isStr,bg,afm,c0,hd,hin,w,ajQ,ajX]
   exact⟨fun _=>⟨(by first | rfl | trivial),(by first | rfl | trivial),h⟩,fun q=>(by cases q)⟩
 · rw[if_neg (by simp[e])] at h
   rw[if_neg e]
   refine af aH (B8 M a.length i a) ?_
   rw[dC] at h hB
   have hB:a.length+1≤10000000:=hB
   simp only[yW,aV,aA.ok,isStr,bg,afm,c0,hd,hin,w,ajQ,ajX]
   exact⟨fun _=>⟨(by first | rfl | trivial),(by first | rfl | trivial),(by simp only[di,Nat.ble_eq];omega),h⟩,fun q=>(by cases q)⟩
theorem Sf (M:Mo) (o:Out) (a:List PV) (h:IZ a=o):aU ae env (N2 2 M a M.exs.length) o:=by
 have hd:decide ((M.exs.length:Int)<(M.exs.length:Int))=false:=decide_eq_false (by omega)
 unfold IZ at h
 unfold N2
 by_cases e:a=[]
 · subst e
   rw[if_pos rfl] at h ⊢
   refine af aH (B7 M 0 M.exs.length []) ?_
   simp only[yV,aV,aA.ok,hd]
   exact⟨fun q=>(by cases q),fun _=>h⟩
 · rw[if_neg e] at h ⊢
   refine af aH (B8 M a.length M.exs.length a) ?_
   simp only[yW,aV,aA.ok,hd]
   exact⟨fun q=>(by cases q),fun _=>h⟩
theorem vi (M:Mo) (hM:M.fit):az ae env 100 [.agg (M.aJ.map .p)] [] (.p (.ps (nK M).length 1 ((nK M).flatMap dW))) []:=by
 have h1:=hM.aX
 have h2:=hM.exs
 have l1:=fB (f:=Me) (n:=2) (fun _=>rfl) M.aX
 have l2:=fB (f:=TA) (n:=1) (fun _=>rfl) M.exs
 rw[←DS,←DR]
 refine um fun v m' e=> ?_
 refine aa aH (RN M) ?_
 have k2:=lJ (B:=10000000) (MR M h2 (.ret v m')) (Sf M _) M.exs.length 0 (M.aX.flatMap Me) (by omega) (by simp only[aeI,dC];omega) e
 have k1:=lJ (B:=10000000) (MQ M h1 (.ret v m')) (Se M _) M.aX.length 0 [] (by omega) (by simp only[aeI,dC,List.length_nil];omega) k2
 unfold N2 at k1
 rw[if_pos rfl] at k1
 exact k1
theorem Jc (M:Mo) (hM:M.fit) (hs:M.uq) (h5:M.els.length≤5000):az ae env 48 [.agg (M.aJ.map .p)] [] (sB (gG M||hU M 141)) []:=by
 have hi:=sK M hM hs 141
 refine aa aH (RQ M) ?_
 simp only[KR,aV,aA.ok,decide_eq_true_eq,decide_eq_false_iff_not]
 refine⟨fun q=> ?_,fun q1=>⟨fun q=> ?_,fun q2=> ?_⟩⟩
 · rw[show gG M=true by simp only[gG,iu,decide_eq_true_eq];omega,ake]
 · rw[show gG M=true by simp only[gG,iu,decide_eq_true_eq];omega,ake]
 · refine iX (D:=rmC M) (fun i x=>R4 M h5 _ i x) (V5 M h5 _) (fun q=> ?_) fun q3=>⟨fun _=>hi,fun q=> ?_,fun q=> ?_⟩
   · rw[show gG M=true by simp[gG,q],ake]
   · rw[show gG M=true by simp only[gG,iu,decide_eq_true_eq];omega,ake]
   · rw[show gG M=false by simp only[gG,q3,Bool.or_false,o6,decide_eq_false_iff_not];omega,pb]
def nC:Int→List Da→Bool
 |_,[]=>false
 |s,x::r=>decide ((x.bs.length:Int)>1048576-s)||nC (s+x.bs.length) r
theorem Gf : ∀(l:List Da),oN (-1) l<0
 |[]=>by decide
 |x::r=>by
  have e:(-1:Int)-min (x.bs.length:Int) (-1+1) = -1:=by omega
  simp only[oN,e]
  exact Gf r
theorem Cn : ∀(l:List Da) (s:Int),0≤s→s≤1048576→(nC s l=true↔oN (1048576-s) l<0)
 |[],s,h0,h1=>by simp[nC,oN];omega
 |x::r,s,h0,h1=>by
  simp only[nC,oN,iu,decide_eq_true_eq]
  by_cases h:(x.bs.length:Int)>1048576-s
  · have e:(1048576-s)-min (x.bs.length:Int) (1048576-s+1) = -1:=by omega
    rw[e]
    exact⟨fun _=>Gf r,fun _=> .inl h⟩
  · have e:(1048576-s)-min (x.bs.length:Int) (1048576-s+1)=1048576-(s+x.bs.length):=by omega
    rw[e,←Cn r (s+x.bs.length) (by omega) (by omega)]
    exact⟨fun q=>q.resolve_left h,.inr⟩
theorem Wa (M:Mo) (hl:M.bp.length≤1000000) : ∀(r i:Nat) (s:Int),i+r=M.bp.length→0≤s→s≤1048576→aU ae env (rlD M s i) (.ret (sB (nC s (M.bp.drop i))) []):=by
 intro r
 induction r with
 |zero=>
  intro i s hi h0 h1
  obtain rfl:i=M.bp.length:=by omega
  have hd:decide ((M.bp.length:Int)<(M.bp.length:Int))=false:=decide_eq_false (by omega)
  refine af aH (Cf M M.bp.length s) ?_
  simp only[ze,aV,aA.ok,hd,ajU,nC]
  exact⟨fun q=>(by cases q),fun _=>trivial⟩
 |succ r ih=>
  intro i s hi h0 h1
  have nW:i<M.bp.length:=by omega
  have hx:=da nW
  rw[agj nW]
  generalize M.bp[i]=x at *
  have c:=aW (z:=2) (enc:=aZ) (fun _=>rfl) hx
  have c1:(M.bp.flatMap aZ).getD (i*2+1) .bz=pT .u8 x.bs:=c 1 (by decide)
  have w:re.wrap ((i:Int)+1)=((i+1:Nat):Int):=by rw[aQ (by omega) (by omega)];rfl
  have w1:re.wrap (1048576-s)=1048576-s:=aQ (by omega) (by omega)
  have hd:decide ((i:Int)<(M.bp.length:Int))=true:=decide_eq_true (by omega)
  have hin:aP (i:Int) M.bp.length=true:=by simp only[aP,di,decide_eq_true_eq];omega
  refine af aH (Cf M i s) ?_
  simp only[ze,aV,aA.ok,aO,an,afm,c1,hd,hin,w,w1,ajQ,ajX,nC,decide_eq_true_eq,decide_eq_false_iff_not]
  refine⟨fun _=>⟨trivial,trivial,fun q=> ?_,fun q=>⟨trivial,trivial,?_⟩⟩,fun q=>(by cases q)⟩
  · rw[decide_eq_true q,ake]
  · rw[decide_eq_false q,pb,aQ (n:=s+(x.bs.length:Int)) (by omega) (by omega)]
    exact ih (i+1) _ (by omega) (by omega) (by omega)
theorem Jd (M:Mo) (hM:M.fit):az ae env 49 [.agg (M.aJ.map .p)] [] (sB (gp M||nC 0 M.bp)) []:=by
 refine aa aH (RR M (nK M).length ((nK M).flatMap dW)) ?_
 simp only[KS,aA.ok]
 refine⟨vi M hM,?_⟩
 refine iX (l:=nK M) (D:=rlC M (nK M)) (fun i x=>R5 M (nK M) (uo hM) _ i x) (V6 M (nK M) (uo hM) _) (fun q=>by rw[gp,q,ake]) fun q=> ?_
 rw[gp,q,pb]
 exact Wa M hM.bp M.bp.length 0 0 (by omega) (by omega) (by omega)
theorem AG (M:Mo) (hM:M.fit):az ae env 50 [.agg (M.aJ.map .p)] [] (sB (!(M.tys.any vw||M.aX.any sy||M.fns.any sA))) []:=by
 refine aa aH (RS M) ?_
 refine iX (D:=KX 0 M) (fun i x=>MJ M hM.tys _ i x) (R6 M hM.tys _) (fun q=>by rw[q];rfl) fun q1=> ?_
 refine iX (D:=KX 3 M) (fun i x=>MK M hM.aX _ i x) (R7 M hM.aX _) (fun q=>by rw[q,aki];rfl) fun q2=> ?_
 refine iX (D:=KX 6 M) (fun i x=>ML M hM.fns _ i x) (R8 M hM.fns _) (fun q=>by rw[q,aki];rfl) fun q3=> ?_
 rw[q1,q2,q3];rfl
def DV (M:Mo):Prop:= ∀x∈nK M,az ae env 102 [.p (.ps x.data.toList.length 1 (x.data.toList.map eE))] [] (sI .i64 (jZ x)) []
theorem Je (M:Mo) (hM:M.fit) (hs:M.uq) (ht:DV M):az ae env 51 [.agg (M.aJ.map .p)] [] (sB (!((nK M).any yM||M.b8.any (jT 1048576)||M.b9.any (jT 65536)||M.exs.any sC)&&((M.st||M.sn==0) && !hU M 2))) []:=by
 have hi:=sK M hM hs 2
 refine aa aH (RT M (nK M).length ((nK M).flatMap dW)) ?_
 simp only[KT,aA.ok]
 refine⟨vi M hM,?_⟩
 refine iX (l:=nK M) (D:=rrC M (nK M)) (fun i x=>MM M (nK M) (uo hM) ht _ i x) (R9 M (nK M) (uo hM) ht _) (fun q=>by rw[q];rfl) fun q1=> ?_
 refine iX (D:=Jb 3 M) (fun i x=>MN M hM.b8 _ i x) (Sa M hM.b8 _) (fun q=>by rw[q,aki];rfl) fun q2=> ?_
 refine iX (D:=Jb 6 M) (fun i x=>MO M hM.b9 _ i x) (Sb M hM.b9 _) (fun q=>by rw[q,aki];rfl) fun q3=> ?_
 refine iX (D:=Jb 9 M) (fun i x=>MP M hM.exs hi _ i x) (Sd M hM.exs hi _) (fun q=>by rw[q,aki];rfl) fun q4=> ?_
 rw[q1,q2,q3,q4];rfl
theorem Jf (M:Mo) (hM:M.fit) (hs:M.uq) (h5:M.els.length≤5000) (ht:gp M=false→DV M):az ae env 24 [.agg (M.aJ.map .p)] [] (sI .i64 (dZ M)) []:=by
 have hov:=Cn M.bp 0 (by decide) (by decide)
 refine aa aH (RW M (gG M||hU M 141) (gp M||nC 0 M.bp) (!(M.tys.any vw||M.aX.any sy||M.fns.any sA)) (!((nK M).any yM||M.b8.any (jT 1048576)||M.b9.any (jT 65536)||M.exs.any sC)&&((M.st||M.sn==0) && !hU M 2))) ?_
 simp only[KW,aA.ok]
 have hm:dZ M=if(gG M||hU M 141)=true then 141 else if(gp M||nC 0 M.bp)=true then 3 else if(yN M||hU M 2)=true then 2 else 0:=by
  have ho:(oN 1048576 M.bp<0∨gp M=true)↔(gp M||nC 0 M.bp)=true:=by
   rw[iu,hov]
   exact⟨fun h=>h.elim .inr .inl,fun h=>h.elim .inr .inl⟩
  unfold dZ BJ F7 Gc
  simp only[ho]
  cases gG M<;>cases hU M 141<;>cases(gp M||nC 0 M.bp)<;>cases yN M<;>cases hU M 2<;>rfl
 have hr:(yN M||hU M 2) = !((!(M.tys.any vw||M.aX.any sy||M.fns.any sA))&&(!((nK M).any yM||M.b8.any (jT 1048576)||M.b9.any (jT 65536)||M.exs.any sC)&&((M.st||M.sn==0) && !hU M 2))):=by
  unfold yN
  have hz:(M.sn != 0) = !(M.sn==0):=rfl
  rw[hz]
  cases M.tys.any vw<;>cases M.aX.any sy<;>cases M.fns.any sA<;>cases(nK M).any yM<;>cases M.b8.any (jT 1048576)<;>cases M.b9.any (jT 65536)<;>cases M.exs.any sC<;>cases M.st<;>cases(M.sn==0)<;>cases hU M 2<;>rfl
 rw[hm,hr]
 refine⟨Jc M hM hs h5,fun q=> ?_,fun q1=>⟨Jd M hM,fun q=> ?_,fun q2=>⟨AG M hM,fun q=> ?_,fun q3=>⟨Je M hM hs (ht (by rw[o6] at q2;exact q2.1)),fun q=> ?_,fun q4=> ?_⟩⟩⟩⟩
 · rw[if_pos q]
 · rw[if_neg (by rw[q1];decide),if_pos q]
 · rw[if_neg (by rw[q1];decide),if_neg (by rw[q2];decide),if_pos (by rw[iv] at q;rw[q];rfl)]
 · rw[if_neg (by rw[q1];decide),if_neg (by rw[q2];decide),if_pos (by rw[iv] at q;rw[q,Bool.and_false];rfl)]
 · rw[if_neg (by rw[q1];decide),if_neg (by rw[q2];decide),if_neg (by rw[Bool.not_eq_false'] at q3 q4;rw[q3,q4];decide)]
end Go.Proofs.YtncncijedmfpjaaGreatDoor.N
end
