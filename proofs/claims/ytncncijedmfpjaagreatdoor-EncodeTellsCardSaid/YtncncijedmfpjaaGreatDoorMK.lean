import Derived.Test.YtncncijedmfpjaaGreatDoorMJ
import Derived.Test.YtncncijedmfpjaaGreatDoorMH
open Nat renaming ble_eq→ajp,beq→ba,le_refl→c9
open Go.Proofs.Tryz renaming prog→ae
open Go.Fn renaming func→ajv
open Go.IntKind renaming i64→re,u32→aeG,u8→ajw,i32→ajx
open Bool renaming true_eq_false→ajE,false_eq_true→o0,and_eq_true→di
open List renaming length_append→dC,length_nil→aeK,length_cons→ml,drop_eq_nil_of_le→agp,drop_eq_getElem_cons→agj,getElem_mem→en,drop_zero→aeI
open Int renaming toNat_natCast→afm,reduceBEq→ajF
noncomputable section
section
set_option linter.unusedSimpArgs false
set_option linter.unusedVariables false
namespace Go.Proofs.YtncncijedmfpjaaGreatDoor.N
open Go Go.Am
def ptC (l:List Ins) (k:Nat) (X:List PV) (i:Nat) (op r a b nn:Int) (tg:List Int) (ll le:List Ins) (al:Int) (st:Bool) (J J':aah) (Q Q':aal) (JJ:List PV→Nat) (QQ:List PV→List PV) (f:FuncId) (_:List AV) (m:Mem):Option (AV×Mem):=cond (ba f 139) (some (.aK [sI .u32 al,sB st],m)) none
def ptL (l:List Ins) (k:Nat) (X:List PV) (i:Nat) (op r a b nn:Int) (tg:List Int) (ll le:List Ins) (al:Int) (st:Bool) (J J':aah) (Q Q':aal) (JJ:List PV→Nat) (QQ:List PV→List PV) (f:FuncId) (args:List AV) (m:Mem):Option (AV×Mem):=
 cond (ba f 45) (match args with | [.p (.sc (.int _ n))]=>some (.p (.ps (J n) 1 (Q n)),m) | _=>none)
 (cond (ba f 138) (match args with | [.p (.sc (.int _ n))]=>some (.p (.ps (J' n) 1 (Q' n)),m) | _=>none)
 (cond (ba f 127) (match args with | [.os (some _) k' _ X',.p (.ps _ _ cs)]=>some (.os (some 1) (k'+JJ cs) 1 (X'++QQ cs),[.dead,.tok]) | _=>none) none))
def ptS (l:List Ins) (k:Nat) (X:List PV) (i:Nat) (op r a b nn:Int) (tg:List Int) (ll le:List Ins) (al:Int) (st:Bool) (J J':aah) (Q Q':aal) (JJ:List PV→Nat) (QQ:List PV→List PV):FuncId→Nat→Nat→Option (AV→AV):=bJ [(127,5,1,nI op r a b nn tg ll le),(127,47,0,sI .i64 ((i+1:Nat):Int))]
def ak0 (l:List Ins) (k:Nat) (X:List PV) (i j:Nat) (op r a b nn:Int) (tg:List Int) (ll le:List Ins) (t:Int) (J:aah) (Q:aal):FuncId→Nat→Nat→Option (AV→AV):=bJ [(127,38,1,sI .u32 t),(127,40,0,sI .i64 ((j+1:Nat):Int)),(127,47,0,sI .i64 ((i+1:Nat):Int))]
def ak1 (l:List Ins) (k:Nat) (X:List PV) (i j:Nat) (op r a b nn:Int) (tg:List Int) (ll le:List Ins) (t:Int) (J:aah) (Q:aal) (f:FuncId) (args:List AV) (m:Mem):Option (AV×Mem):=
 cond (ba f 45) (match args with | [.p (.sc (.int _ n))]=>some (.p (.ps (J n) 1 (Q n)),m) | _=>none) none
def agf:bA:=aM aE aC [(127,0)] [] []
def ak2:Sc:= .fin
def P5 (l:List Ins) (k:Nat) (X:List PV):aA:=
 (.at (ah ae env 127 0 [.mp 1 0,.fn (ajv 137) [] [.mp 1 0],.p (.ps l.length 8 (aj l)),sI .i64 (↑l.length:Int),sI .i64 0] ([.tok,.ac [.os (some 0) k 1 X]]) 1 130))
theorem UE (l:List Ins) (k:Nat) (X:List PV):aI ae env agf 1000000 127 ([AV.os (Option.some 0) k 1 X,aL l]) ([bq.tok]) ak2=P5 l k X:=by kernel_rfl
def aaj (l:List Ins) (k:Nat) (X:List PV) (i:Nat) (op r a b nn:Int) (tg:List Int) (ll:List Ins) (le:List Ins) (al:Int) (st:Bool) (J:aah) (J':aah) (Q:aal) (Q':aal) (JJ:List PV→Nat) (QQ:List PV→List PV):bA:=dY (ptC l k X i op r a b nn tg ll le al st J J' Q Q' JJ QQ) (ptL l k X i op r a b nn tg ll le al st J J' Q Q' JJ QQ) [(127,0),(127,17)] [(127,0,1),(127,0,2),(127,0,4),(127,0,5),(127,0,6),(127,0,3),(127,0,7),(127,0,14),(127,0,8),(127,0,9),(127,0,10),(127,0,11),(127,0,12),(127,0,13),(127,0,15),(127,0,16),(127,0,19),(127,0,20),(127,0,21),(127,0,22)] [(127,5,0),(127,5,1),(127,6,5),(127,0,6),(127,0,7),(127,21,2),(137,0,0),(127,33,2),(127,44,2),(127,0,22)] (ptS l k X i op r a b nn tg ll le al st J J' Q Q' JJ QQ)
def agh:Sc:=(.fork (.fork (.yes .fin) (.fork (.yes .fin) (.fork .fin (.fork (.yes .fin) (.fork (.yes .fin) (.fork (.yes .fin) (.fork (.yes .fin) (.fork (.yes .fin) (.fork (.yes .fin) (.fork (.yes .fin) (.fork .fin (.fork .fin (.fork .fin (.fork (.yes .fin) .fin)))))))))))))) .fin)
def dx (l:List Ins) (k:Nat) (X:List PV) (i:Nat) (op r:Int) (ll:List Ins) (le:List Ins) (JJ:List PV→Nat) (QQ:List PV→List PV):aA:=
 (.test (r==1) (.call ⟨127,[.os (some 0) (k+1+1) 1 (X++[.sc (.int .u8 (ajw.wrap op))]++[.sc (.int .u8 127)]),.p (.ps ll.length 8 (aj ll))],[.tok],.os (some 1) (k+1+1+JJ (aj ll)) 1 (X++[.sc (.int .u8 (ajw.wrap op))]++[.sc (.int .u8 127)]++QQ (aj ll)),[.dead,.tok]⟩ (.must (((k+1+1)*1).ble aR&&(k+1+1).ble aR&&true&&true&&true) (.test (decide ((↑le.length:Int)>0)) (.call ⟨127,[.os (some 0) (k+1+1+JJ (aj ll)+1) 1 (X++[.sc (.int .u8 (ajw.wrap op))]++[.sc (.int .u8 127)]++QQ (aj ll)++[.sc (.int .u8 5)]),.p (.ps le.length 8 (aj le))],[.tok],.os (some 1) (k+1+1+JJ (aj ll)+1+JJ (aj le)) 1 (X++[.sc (.int .u8 (ajw.wrap op))]++[.sc (.int .u8 127)]++QQ (aj ll)++[.sc (.int .u8 5)]++QQ (aj le)),[.dead,.tok]⟩ (.must (((k+1+1+JJ (aj ll)+1)*1).ble aR&&(k+1+1+JJ (aj ll)+1).ble aR&&true&&true&&true) (.must (((k+1+1+JJ (aj ll)+1+JJ (aj le)+1)*1).ble aR&&(k+1+1+JJ (aj ll)+1+JJ (aj le)+1).ble aR&&true) (.need (sI .i64 (re.wrap ((↑i:Int)+1))=sI re (↑(i+1):Int)) (.at (ah ae env 127 0 [.mp 1 0,.fn (ajv 137) [] [.mp 1 0],.p (.ps l.length 8 (aj l)),sI .i64 (↑l.length:Int),sI .i64 (↑(i+1):Int)] ([.dead,.ac [.os (some 2) (k+1+1+JJ (aj ll)+1+JJ (aj le)+1) 1 (X++[.sc (.int .u8 (ajw.wrap op))]++[.sc (.int .u8 127)]++QQ (aj ll)++[.sc (.int .u8 5)]++QQ (aj le)++[.sc (.int .u8 11)])],.tok]) 1 130)))))) (.must (((k+1+1+JJ (aj ll)+1)*1).ble aR&&(k+1+1+JJ (aj ll)+1).ble aR&&true) (.need (sI .i64 (re.wrap ((↑i:Int)+1))=sI re (↑(i+1):Int)) (.at (ah ae env 127 0 [.mp 1 0,.fn (ajv 137) [] [.mp 1 0],.p (.ps l.length 8 (aj l)),sI .i64 (↑l.length:Int),sI .i64 (↑(i+1):Int)] ([.dead,.ac [.os (some 2) (k+1+1+JJ (aj ll)+1) 1 (X++[.sc (.int .u8 (ajw.wrap op))]++[.sc (.int .u8 127)]++QQ (aj ll)++[.sc (.int .u8 11)])],.tok]) 1 130))))))) (.call ⟨127,[.os (some 0) (k+1+1) 1 (X++[.sc (.int .u8 (ajw.wrap op))]++[.sc (.int .u8 64)]),.p (.ps ll.length 8 (aj ll))],[.tok],.os (some 1) (k+1+1+JJ (aj ll)) 1 (X++[.sc (.int .u8 (ajw.wrap op))]++[.sc (.int .u8 64)]++QQ (aj ll)),[.dead,.tok]⟩ (.must (((k+1+1)*1).ble aR&&(k+1+1).ble aR&&true&&true&&true) (.test (decide ((↑le.length:Int)>0)) (.call ⟨127,[.os (some 0) (k+1+1+JJ (aj ll)+1) 1 (X++[.sc (.int .u8 (ajw.wrap op))]++[.sc (.int .u8 64)]++QQ (aj ll)++[.sc (.int .u8 5)]),.p (.ps le.length 8 (aj le))],[.tok],.os (some 1) (k+1+1+JJ (aj ll)+1+JJ (aj le)) 1 (X++[.sc (.int .u8 (ajw.wrap op))]++[.sc (.int .u8 64)]++QQ (aj ll)++[.sc (.int .u8 5)]++QQ (aj le)),[.dead,.tok]⟩ (.must (((k+1+1+JJ (aj ll)+1)*1).ble aR&&(k+1+1+JJ (aj ll)+1).ble aR&&true&&true&&true) (.must (((k+1+1+JJ (aj ll)+1+JJ (aj le)+1)*1).ble aR&&(k+1+1+JJ (aj ll)+1+JJ (aj le)+1).ble aR&&true) (.need (sI .i64 (re.wrap ((↑i:Int)+1))=sI re (↑(i+1):Int)) (.at (ah ae env 127 0 [.mp 1 0,.fn (ajv 137) [] [.mp 1 0],.p (.ps l.length 8 (aj l)),sI .i64 (↑l.length:Int),sI .i64 (↑(i+1):Int)] ([.dead,.ac [.os (some 2) (k+1+1+JJ (aj ll)+1+JJ (aj le)+1) 1 (X++[.sc (.int .u8 (ajw.wrap op))]++[.sc (.int .u8 64)]++QQ (aj ll)++[.sc (.int .u8 5)]++QQ (aj le)++[.sc (.int .u8 11)])],.tok]) 1 130)))))) (.must (((k+1+1+JJ (aj ll)+1)*1).ble aR&&(k+1+1+JJ (aj ll)+1).ble aR&&true) (.need (sI .i64 (re.wrap ((↑i:Int)+1))=sI re (↑(i+1):Int)) (.at (ah ae env 127 0 [.mp 1 0,.fn (ajv 137) [] [.mp 1 0],.p (.ps l.length 8 (aj l)),sI .i64 (↑l.length:Int),sI .i64 (↑(i+1):Int)] ([.dead,.ac [.os (some 2) (k+1+1+JJ (aj ll)+1) 1 (X++[.sc (.int .u8 (ajw.wrap op))]++[.sc (.int .u8 64)]++QQ (aj ll)++[.sc (.int .u8 11)])],.tok]) 1 130))))))))
def cJ (l:List Ins) (k:Nat) (X:List PV) (i:Nat) (op a:Int) (J:aah) (Q:aal):aA:=
 (.call ⟨45,[sI .u32 a],[],.p (.ps (J a) 1 (Q a)),[]⟩ (.must (((k+1+J a)*1).ble aR&&(k+1+J a).ble aR&&true&&true&&true) (.must true (.need (sI .i64 (re.wrap ((↑i:Int)+1))=sI re (↑(i+1):Int)) (.at (ah ae env 127 0 [.mp 1 0,.fn (ajv 137) [] [.mp 1 0],.p (.ps l.length 8 (aj l)),sI .i64 (↑l.length:Int),sI .i64 (↑(i+1):Int)] ([.dead,.ac [.os (some 2) (k+1+J a) 1 (X++[.sc (.int .u8 (ajw.wrap op))]++Q a)],.tok]) 1 130))))))
def dJ (l:List Ins) (k:Nat) (X:List PV) (i:Nat) (op:Int):aA:=
 (.must (((k+1+1)*1).ble aR&&(k+1+1).ble aR&&true) (.need (sI .i64 (re.wrap ((↑i:Int)+1))=sI re (↑(i+1):Int)) (.at (ah ae env 127 0 [.mp 1 0,.fn (ajv 137) [] [.mp 1 0],.p (.ps l.length 8 (aj l)),sI .i64 (↑l.length:Int),sI .i64 (↑(i+1):Int)] ([.dead,.ac [.os (some 2) (k+1+1) 1 (X++[.sc (.int .u8 (ajw.wrap op))]++[.sc (.int .u8 0)])],.tok]) 1 130))))
def fK (l:List Ins) (k:Nat) (X:List PV) (i:Nat) (op r a b nn:Int) (tg:List Int) (ll:List Ins) (le:List Ins) (al:Int) (st:Bool) (J:aah) (J':aah) (Q:aal) (Q':aal) (JJ:List PV→Nat) (QQ:List PV→List PV):aA:=
 (.test (decide ((↑i:Int)<(↑l.length:Int)))
 (.must (aP (↑i:Int) l.length&&true&&true)
 (.must (isInt re (aq (aj l) (aB i*8))&&(isInt re (aq (aj l) (aB i*8+1))&&(isInt aeG (aq (aj l) (aB i*8+1+1))&&(isInt aeG (aq (aj l) (aB i*8+1+1+1))&&(isInt ajx (aq (aj l) (aB i*8+1+1+1+1))&&(aO (aq (aj l) (aB i*8+1+1+1+1+1))&&(aO (aq (aj l) (aB i*8+1+1+1+1+1+1))&&(aO (aq (aj l) (aB i*8+1+1+1+1+1+1+1))&&true)))))))&&true)
 (.need (AV.agg [sI .i64 (au (aq (aj l) (aB i*8))),sI .i64 (au (aq (aj l) (aB i*8+1))),sI .u32 (au (aq (aj l) (aB i*8+1+1))),sI .u32 (au (aq (aj l) (aB i*8+1+1+1))),sI .i32 (au (aq (aj l) (aB i*8+1+1+1+1))),AV.p (PV.ps (an (aq (aj l) (aB i*8+1+1+1+1+1))) (aD (aq (aj l) (aB i*8+1+1+1+1+1))) (ak (aq (aj l) (aB i*8+1+1+1+1+1)))),AV.p (PV.ps (an (aq (aj l) (aB i*8+1+1+1+1+1+1))) (aD (aq (aj l) (aB i*8+1+1+1+1+1+1))) (ak (aq (aj l) (aB i*8+1+1+1+1+1+1)))),AV.p (PV.ps (an (aq (aj l) (aB i*8+1+1+1+1+1+1+1))) (aD (aq (aj l) (aB i*8+1+1+1+1+1+1+1))) (ak (aq (aj l) (aB i*8+1+1+1+1+1+1+1))))]=nI op r a b nn tg ll le)
 (.must (((k+1)*1).ble aR&&(k+1).ble aR&&true)
 (.test (op==2)
 (.must (op==2)
 (dx l k X i op r ll le JJ QQ))
 (.test (op==3)
 (.must (op==3)
 (dx l k X i op r ll le JJ QQ))
 (.test (op==4)
 (dx l k X i op r ll le JJ QQ)
 (.test (op==12)
 (.must (op==12)
 (cJ l k X i op a J Q))
 (.test (op==13)
 (.must (op==13)
 (cJ l k X i op a J Q))
 (.test (op==16)
 (.must (op==16)
 (cJ l k X i op a J Q))
 (.test (op==32)
 (.must (op==32)
 (cJ l k X i op a J Q))
 (.test (op==33)
 (.must (op==33)
 (cJ l k X i op a J Q))
 (.test (op==34)
 (.must (op==34)
 (cJ l k X i op a J Q))
 (.test (op==35)
 (.must (op==35)
 (cJ l k X i op a J Q))
 (.test (op==36)
 (cJ l k X i op a J Q)
 (.test (op==17)
 (.call ⟨45,[sI .u32 a],[],.p (.ps (J a) 1 (Q a)),[]⟩
 (.must (((k+1+J a)*1).ble aR&&(k+1+J a).ble aR&&true&&true&&true)
 (.must true
 (.must (((k+1+J a+1)*1).ble aR&&(k+1+J a+1).ble aR&&true)
 (.need (sI .i64 (re.wrap ((↑i:Int)+1))=sI re (↑(i+1):Int))
 (.at (ah ae env 127 0 [.mp 1 0,.fn (ajv 137) [] [.mp 1 0],.p (.ps l.length 8 (aj l)),sI .i64 (↑l.length:Int),sI .i64 (↑(i+1):Int)] ([.dead,.ac [.os (some 2) (k+1+J a+1) 1 (X++[.sc (.int .u8 (ajw.wrap op))]++Q a++[.sc (.int .u8 0)])],.tok]) 1 130)))))))
 (.test (op==14)
 (.call ⟨45,[sI .u32 (aeG.wrap (↑tg.length:Int))],[],.p (.ps (J (aeG.wrap (↑tg.length:Int))) 1 (Q (aeG.wrap (↑tg.length:Int)))),[]⟩
 (.must (((k+1+J (aeG.wrap (↑tg.length:Int)))*1).ble aR&&(k+1+J (aeG.wrap (↑tg.length:Int))).ble aR&&true&&true&&true)
 (.must true
 (.at (ah ae env 127 17 [.mp 1 0,.fn (ajv 137) [] [.mp 1 0],.mp 2 0,.p (.ps l.length 8 (aj l)),sI .i64 (↑l.length:Int),sI .i64 (↑i:Int),.p (.ps tg.length 1 (bN aeG tg)),sI .i64 (↑tg.length:Int),sI .i64 0] ([.dead,.ac [.os (some 3) (k+1+J (aeG.wrap (↑tg.length:Int))) 1 (X++[.sc (.int .u8 (ajw.wrap op))]++Q (aeG.wrap (↑tg.length:Int)))],.ac [sI .i64 op,sI .i64 r,sI .u32 a,sI .u32 b,sI .i32 nn,.p (.ps tg.length 1 (bN aeG tg)),.p (.ps ll.length 8 (aj ll)),.p (.ps le.length 8 (aj le))],.tok]) 1 130)))))
 (.test (op==63)
 (.must (op==63)
 (dJ l k X i op))
 (.test (op==64)
 (dJ l k X i op)
 (.test (op==65)
 (.call ⟨138,[sI .i32 nn],[],.p (.ps (J' nn) 1 (Q' nn)),[]⟩
 (.must (((k+1+J' nn)*1).ble aR&&(k+1+J' nn).ble aR&&true&&true&&true)
 (.need (sI .i64 (re.wrap ((↑i:Int)+1))=sI re (↑(i+1):Int))
 (.at (ah ae env 127 0 [.mp 1 0,.fn (ajv 137) [] [.mp 1 0],.p (.ps l.length 8 (aj l)),sI .i64 (↑l.length:Int),sI .i64 (↑(i+1):Int)] ([.dead,.ac [.os (some 2) (k+1+J' nn) 1 (X++[.sc (.int .u8 (ajw.wrap op))]++Q' nn)],.tok]) 1 130)))))
 (.call ⟨139,[sI .i64 op],[],.aK [sI .u32 al,.p (.sc (.bool st))],[]⟩
 (.test (st)
 (.call ⟨45,[sI .u32 a],[],.p (.ps (J a) 1 (Q a)),[]⟩
 (.must (((k+1+J a)*1).ble aR&&(k+1+J a).ble aR&&true&&true&&true)
 (.must true
 (.call ⟨45,[sI .u32 b],[],.p (.ps (J b) 1 (Q b)),[]⟩
 (.must (((k+1+J a+J b)*1).ble aR&&(k+1+J a+J b).ble aR&&true&&true&&true)
 (.must true
 (.need (sI .i64 (re.wrap ((↑i:Int)+1))=sI re (↑(i+1):Int))
 (.at (ah ae env 127 0 [.mp 1 0,.fn (ajv 137) [] [.mp 1 0],.p (.ps l.length 8 (aj l)),sI .i64 (↑l.length:Int),sI .i64 (↑(i+1):Int)] ([.dead,.ac [.os (some 2) (k+1+J a+J b) 1 (X++[.sc (.int .u8 (ajw.wrap op))]++Q a++Q b)],.tok]) 1 130)))))))))
 (.need (sI .i64 (re.wrap ((↑i:Int)+1))=sI re (↑(i+1):Int))
 (.at (ah ae env 127 0 [.mp 1 0,.fn (ajv 137) [] [.mp 1 0],.p (.ps l.length 8 (aj l)),sI .i64 (↑l.length:Int),sI .i64 (↑(i+1):Int)] ([.dead,.ac [.os (some 2) (k+1) 1 (X++[.sc (.int .u8 (ajw.wrap op))])],.tok]) 1 130)))))))))))))))))))))))))
 (.out (.ret (.os (some 1) k 1 X) [.dead,.tok])))
theorem FP (l:List Ins) (k:Nat) (X:List PV) (i:Nat) (op r a b nn:Int) (tg:List Int) (ll:List Ins) (le:List Ins) (al:Int) (st:Bool) (J:aah) (J':aah) (Q:aal) (Q':aal) (JJ:List PV→Nat) (QQ:List PV→List PV):grow ae env (aaj l k X i op r a b nn tg ll le al st J J' Q Q' JJ QQ) 1000000 true (ah ae env 127 0 ([AV.mp 1 0,AV.fn (ajv 137) [] [AV.mp 1 0],aL l,sI re (↑l.length:Int),sI re (↑i:Int)]) ([bq.dead,bq.ac [AV.os (Option.some 2) k 1 X],bq.tok]) 1 130) agh atEnd=fK l k X i op r a b nn tg ll le al st J J' Q Q' JJ QQ:=by kernel_rfl
def aak (l:List Ins) (k:Nat) (X:List PV) (i:Nat) (j:Nat) (op r a b nn:Int) (tg:List Int) (ll:List Ins) (le:List Ins) (t:Int) (J:aah) (Q:aal):bA:=dY aE (ak1 l k X i j op r a b nn tg ll le t J Q) [(127,0),(127,17)] [(127,0,18)] [(127,38,0),(127,38,1),(137,0,0)] (ak0 l k X i j op r a b nn tg ll le t J Q)
def agi:Sc:= .fin
def DC (l:List Ins) (k:Nat) (X:List PV) (i:Nat) (j:Nat) (op r a b nn:Int) (tg:List Int) (ll:List Ins) (le:List Ins) (t:Int) (J:aah) (Q:aal):aA:=
 (.test (decide ((↑j:Int)<(↑tg.length:Int)))
 (.must (aP (↑j:Int) tg.length&&true&&true)
 (.must (isInt aeG (aq (bN aeG tg) (aB j*1))&&true)
 (.need (sI .u32 (au (aq (bN aeG tg) (aB j*1)))=sI aeG t)
 (.call ⟨45,[sI .u32 t],[],.p (.ps (J t) 1 (Q t)),[]⟩
 (.must (((k+J t)*1).ble aR&&(k+J t).ble aR&&true&&true&&true)
 (.must true
 (.need (sI .i64 (re.wrap ((↑j:Int)+1))=sI re (↑(j+1):Int))
 (.at (ah ae env 127 17 [.mp 1 0,.fn (ajv 137) [] [.mp 1 0],.mp 2 0,.p (.ps l.length 8 (aj l)),sI .i64 (↑l.length:Int),sI .i64 (↑i:Int),.p (.ps tg.length 1 (bN aeG tg)),sI .i64 (↑tg.length:Int),sI .i64 (↑(j+1):Int)] ([.dead,.ac [.os (some 3) (k+J t) 1 (X++Q t)],.ac [sI .i64 op,sI .i64 r,sI .u32 a,sI .u32 b,sI .i32 nn,.p (.ps tg.length 1 (bN aeG tg)),.p (.ps ll.length 8 (aj ll)),.p (.ps le.length 8 (aj le))],.tok]) 1 130)))))))))
 (.call ⟨45,[sI .u32 a],[],.p (.ps (J a) 1 (Q a)),[]⟩
 (.must (((k+J a)*1).ble aR&&(k+J a).ble aR&&true&&true&&true)
 (.must true
 (.need (sI .i64 (re.wrap ((↑i:Int)+1))=sI re (↑(i+1):Int))
 (.at (ah ae env 127 0 [.mp 1 0,.fn (ajv 137) [] [.mp 1 0],.p (.ps l.length 8 (aj l)),sI .i64 (↑l.length:Int),sI .i64 (↑(i+1):Int)] ([.dead,.ac [.os (some 2) (k+J a) 1 (X++Q a)],.tok]) 1 130)))))))
theorem FQ (l:List Ins) (k:Nat) (X:List PV) (i:Nat) (j:Nat) (op r a b nn:Int) (tg:List Int) (ll:List Ins) (le:List Ins) (t:Int) (J:aah) (Q:aal):grow ae env (aak l k X i j op r a b nn tg ll le t J Q) 1000000 true (ah ae env 127 17 ([AV.mp 1 0,AV.fn (ajv 137) [] [AV.mp 1 0],AV.mp 2 0,aL l,sI re (↑l.length:Int),sI re (↑i:Int),AV.p (PV.ps tg.length 1 (bN aeG tg)),sI re (↑tg.length:Int),sI re (↑j:Int)]) ([bq.dead,bq.ac [AV.os (Option.some 3) k 1 X],bq.ac [sI re op,sI re r,sI aeG a,sI aeG b,sI ajx nn,AV.p (PV.ps tg.length 1 (bN aeG tg)),aL ll,aL le],bq.tok]) 1 130) agi atEnd=DC l k X i j op r a b nn tg ll le t J Q:=by kernel_rfl
def DD (l:List Ins):Prop:= ∀X:List PV,X.length+20*cz l≤1000000000→az ae env 127 [.os (some 0) X.length 1 X,aL l] [.tok] (.os (some 1) (X.length+jL (aj l)) 1 (X++qL (aj l))) [.dead,.tok]
theorem DD.to {l:List Ins} (h:DD l) {n:Nat} {X:List PV} (hn:n=X.length) (hX:X.length+20*cz l≤1000000000):az ae env 127 [.os (some 0) n 1 X,aL l] [.tok] (.os (some 1) (n+jL (aj l)) 1 (X++qL (aj l))) [.dead,.tok]:=by subst hn;exact h X hX
noncomputable abbrev Mc (l:List Ins) (X:List PV) (i n:Nat):cm:=ah ae env 127 0 [.mp 1 0,.fn (.func 137) [] [.mp 1 0],aL l,sI .i64 l.length,sI .i64 i] [.dead,.ac [.os (some 2) n 1 X],.tok] 1 130
theorem uf {l:List Ins} {X Y:List PV} {i n:Nat} {o:Out} (h:X=Y) (hn:n=Y.length) (k:aU ae env (Mc l Y i Y.length) o):aU ae env (Mc l X i n) o:=by subst h;subst hn;exact k
theorem UF {l:List Ins} {i:Nat} {op r a b nn:Int} {tg:List Int} {ll le:List Ins} {o:Out} (hi:i<1000000000) (ha:0≤a∧a<4294967296) (ht : ∀t∈tg,0≤t∧t<4294967296) (hl:tg.length≤1000000) : ∀(n j:Nat) (X:List PV),j+n=tg.length→X.length+5*n≤1000000000 →
  aU ae env (Mc l (X++(bt ((tg.drop j).flatMap fun t=>pU 4 t.toNat)++qU a)) (i+1) (X++(bt ((tg.drop j).flatMap fun t=>pU 4 t.toNat)++qU a)).length) o →
  aU ae env (ah ae env 127 17 [.mp 1 0,.fn (.func 137) [] [.mp 1 0],.mp 2 0,aL l,sI .i64 l.length,sI .i64 i,.p (.ps tg.length 1 (bN .u32 tg)),sI .i64 tg.length,sI .i64 j] [.dead,.ac [.os (some 3) X.length 1 X],.ac [sI .i64 op,sI .i64 r,sI .u32 a,sI .u32 b,sI .i32 nn,.p (.ps tg.length 1 (bN .u32 tg)),aL ll,aL le],.tok] 1 130) o:=by
 have bw:aR=70368744177664:=rfl
 have hja:=qo a
 have hqa:(qU a).length=jU a:=aT _
 have wi:re.wrap ((i:Int)+1)=((i+1:Nat):Int):=by rw[aQ (by omega) (by omega)];rfl
 intro n
 induction n with
 |zero=>
  intro j X hj hX hg
  have hd:decide ((j:Int)<(tg.length:Int))=false:=decide_eq_false (by omega)
  refine af aH (FQ l X.length X i j op r a b nn tg ll le 0 jU qU) ?_
  simp only[DC,aV,aA.ok,hd,bw,ajp,di,and_true,o0,false_implies,true_implies,true_and,wi]
  refine⟨hG ha,⟨by omega,by omega⟩,uf ?_ ?_ hg⟩
  · rw[agp (by omega)];simp[bt]
  · rw[agp (by omega)];simp[bt,hqa]
 |succ n ih=>
  intro j X hj hX hg
  have hjl:j<tg.length:=by omega
  have hd:decide ((j:Int)<(tg.length:Int))=true:=decide_eq_true (by omega)
  have HG:=qo tg[j]
  have hqt:(qU tg[j]).length=jU tg[j]:=aT _
  have w:re.wrap ((j:Int)+1)=((j+1:Nat):Int):=by rw[aQ (by omega) (by omega)];rfl
  have e:(X++qU tg[j])++(bt ((tg.drop (j+1)).flatMap fun t=>pU 4 t.toNat)++qU a)=X++(bt ((tg.drop j).flatMap fun t=>pU 4 t.toNat)++qU a):=by
   rw[agj hjl,List.flatMap_cons,aS]
   simp[qU]
  have k:=ih (j+1) (X++qU tg[j]) (by omega) (by rw[dC];omega) (by rw[e];exact hg)
  have hin:aP (j:Int) tg.length=true:=by simp only[aP,di,decide_eq_true_eq];omega
  refine af aH (FQ l X.length X i j op r a b nn tg ll le tg[j] jU qU) ?_
  simp only[DC,aV,aA.ok,hd,bw,ajp,di,and_true,true_and,ajE,false_implies,true_implies,hin,afm,vO hjl,isInt,au,w,beq_self_eq_true]
  refine⟨hG (ht _ (en hjl)),⟨by omega,by omega⟩,?_⟩
  rw[dC,hqt] at k
  exact k
theorem P6 {op:Int} (h:lQ op=true) (qp : ¬op=17):op=12∨op=13∨op=16∨op=32∨op=33∨op=34∨op=35∨op=36:=by
 have:=FC.1 h
 omega
set_option maxHeartbeats 8000000 in
theorem P7 {l:List Ins} {i:Nat} {op r a b nn:Int} {tg:List Int} {ll le:List Ins} {X:List PV} {o:Out} (hg:l[i]? = some (.mk op r a b nn tg ll le)) (hi:i<1000000000)
  (hw:Tw (.mk op r a b nn tg ll le)) (hX:X.length+20*jr (.mk op r a b nn tg ll le)≤1000000000) (hc:jr (.mk op r a b nn tg ll le)≤1000000) (h1:DD ll) (h2:DD le)
  (k:aU ae env (Mc l (X++bt (gZ (.mk op r a b nn tg ll le))) (i+1) (X++bt (gZ (.mk op r a b nn tg ll le))).length) o):aU ae env (Mc l X i X.length) o:=by
 have bw:aR=70368744177664:=rfl
 have nW:i<l.length:=(List.getElem?_eq_some_iff.1 hg).1
 obtain⟨-,-,wa,wb,wn,⟨wt,wt'⟩,-,-,-⟩:=hw
 have wa:=lR wa
 have wb:=lR wb
 have wn:=P2 wn
 have wt' : ∀t∈tg,0≤t∧t<4294967296:=fun t ht=>lR (wt' t ht)
 simp only[jr] at hc hX
 have k1:jL (aj ll)≤20*cz ll:=by rw[iJ];exact iC ll
 have k2:jL (aj le)≤20*cz le:=by rw[iJ];exact iC le
 have k3:=qo a
 have k4:=qo b
 have k5:=Yj nn
 have k6:=qo tg.length
 have q1:(qL (aj ll)).length=jL (aj ll):=by rw[lH,iJ,aT]
 have q2:(qL (aj le)).length=jL (aj le):=by rw[lH,iJ,aT]
 have q3:(qU a).length=jU a:=aT _
 have q4:(qU b).length=jU b:=aT _
 have q5:(qS nn).length=jS nn:=aT _
 have q6:(qU tg.length).length=jU tg.length:=aT _
 have hu:aeG.wrap (tg.length:Int)=tg.length:=uQ (by omega) (by omega)
 have hd:decide ((i:Int)<(l.length:Int))=true:=decide_eq_true (by omega)
 have hin:aP (i:Int) l.length=true:=by simp only[aP,di,decide_eq_true_eq];omega
 have w:re.wrap ((i:Int)+1)=((i+1:Nat):Int):=by rw[aQ (by omega) (by omega)];rfl
 obtain⟨c0,c1,c2,c3,c4,c5,c6,c7⟩:=gE hg
 have c2:(aj l).getD (i*8+1+1) .bz = .sc (.int .u32 a):=c2
 have c3:(aj l).getD (i*8+1+1+1) .bz = .sc (.int .u32 b):=c3
 have c4:(aj l).getD (i*8+1+1+1+1) .bz = .sc (.int .i32 nn):=c4
 have c5:(aj l).getD (i*8+1+1+1+1+1) .bz = .ps tg.length 1 (bN .u32 tg):=c5
 have c6:(aj l).getD (i*8+1+1+1+1+1+1) .bz = .ps ll.length 8 (aj ll):=c6
 have c7:(aj l).getD (i*8+1+1+1+1+1+1+1) .bz = .ps le.length 8 (aj le):=c7
 have cb:PV.sc (.int .u8 (ajw.wrap op)) = .sc (.int .u8 ((op%256).toNat:Int)):=by rw[bW]
 have a1:=xX op
 have hk:X.length+5≤1000000000:=by omega
 refine af aH (FP l X.length X i op r a b nn tg ll le (qP op) (iB op) jU jS qU qS jL qL) ?_
 cases ia:kT op with
 |true=>
  by_cases hr:r=1
  · by_cases hle:le.length=0
    · have he:decide ((le.length:Int)>0)=false:=decide_eq_false (by omega)
      have dr:(r==1)=true:=by rw[hr];rfl
      rcases jv.1 ia with rfl | rfl | rfl
      all_goals
       simp only[fK,dx,cJ,dJ,aV,aA.ok,hd,bw,ajp,di,and_true,true_and,ajE,o0,false_implies,true_implies,hin,afm,c0,c1,c2,c3,c4,c5,c6,c7,isInt,aO,au,an,aD,ak,w,beq_self_eq_true,cb,hu,ajF,he,dr]
       exact⟨rfl,⟨by omega,by omega⟩,h1.to (by simp only[dC,ml,aeK]) (by simp only[dC,ml,aeK];omega),⟨by omega,by omega⟩,⟨by omega,by omega⟩,uf (by simp[gZ,ia,hle,hr,bt,lH]) (by simp[gZ,ia,hle,hr,bt,iJ];omega) k⟩
    · have he:decide ((le.length:Int)>0)=true:=decide_eq_true (by omega)
      have dr:(r==1)=true:=by rw[hr];rfl
      rcases jv.1 ia with rfl | rfl | rfl
      all_goals
       simp only[fK,dx,cJ,dJ,aV,aA.ok,hd,bw,ajp,di,and_true,true_and,ajE,o0,false_implies,true_implies,hin,afm,c0,c1,c2,c3,c4,c5,c6,c7,isInt,aO,au,an,aD,ak,w,beq_self_eq_true,cb,hu,ajF,he,dr]
       exact⟨rfl,⟨by omega,by omega⟩,h1.to (by simp only[dC,ml,aeK]) (by simp only[dC,ml,aeK];omega),⟨by omega,by omega⟩,h2.to (by simp only[dC,ml,aeK,q1]) (by simp only[dC,ml,aeK,q1];omega),⟨by omega,by omega⟩,⟨by omega,by omega⟩,uf (by simp[gZ,ia,hle,hr,bt,lH]) (by simp[gZ,ia,hle,hr,bt,iJ];omega) k⟩
  · have dr:(r==1)=false:=by simpa using hr
    by_cases hle:le.length=0
    · have he:decide ((le.length:Int)>0)=false:=decide_eq_false (by omega)
      rcases jv.1 ia with rfl | rfl | rfl
      all_goals
       simp only[fK,dx,cJ,dJ,aV,aA.ok,hd,bw,ajp,di,and_true,true_and,ajE,o0,false_implies,true_implies,hin,afm,c0,c1,c2,c3,c4,c5,c6,c7,isInt,aO,au,an,aD,ak,w,beq_self_eq_true,cb,hu,ajF,he,dr]
       exact⟨rfl,⟨by omega,by omega⟩,h1.to (by simp only[dC,ml,aeK]) (by simp only[dC,ml,aeK];omega),⟨by omega,by omega⟩,⟨by omega,by omega⟩,uf (by simp[gZ,ia,hle,hr,bt,lH]) (by simp[gZ,ia,hle,hr,bt,iJ];omega) k⟩
    · have he:decide ((le.length:Int)>0)=true:=decide_eq_true (by omega)
      rcases jv.1 ia with rfl | rfl | rfl
      all_goals
       simp only[fK,dx,cJ,dJ,aV,aA.ok,hd,bw,ajp,di,and_true,true_and,ajE,o0,false_implies,true_implies,hin,afm,c0,c1,c2,c3,c4,c5,c6,c7,isInt,aO,au,an,aD,ak,w,beq_self_eq_true,cb,hu,ajF,he,dr]
       exact⟨rfl,⟨by omega,by omega⟩,h1.to (by simp only[dC,ml,aeK]) (by simp only[dC,ml,aeK];omega),⟨by omega,by omega⟩,h2.to (by simp only[dC,ml,aeK,q1]) (by simp only[dC,ml,aeK,q1];omega),⟨by omega,by omega⟩,⟨by omega,by omega⟩,uf (by simp[gZ,ia,hle,hr,bt,lH]) (by simp[gZ,ia,hle,hr,bt,iJ];omega) k⟩
 |false=>
  have n2:(op==2)=false:=by cases h:op==2 with | false=>rfl | true=>rw[jv.2 (.inl (eq_of_beq h))] at ia;cases ia
  have n3:(op==3)=false:=by cases h:op==3 with | false=>rfl | true=>rw[jv.2 (.inr (.inl (eq_of_beq h)))] at ia;cases ia
  have n4:(op==4)=false:=by cases h:op==4 with | false=>rfl | true=>rw[jv.2 (.inr (.inr (eq_of_beq h)))] at ia;cases ia
  by_cases qp:op=17
  · have Yk:(op==17)=true:=by rw[qp];rfl
    have B1:(X.length+1)*1≤70368744177664∧X.length+1≤70368744177664:=⟨by omega,by omega⟩
    simp only[fK,dx,cJ,dJ,aV,aA.ok,hd,bw,ajp,di,and_true,true_and,ajE,o0,false_implies,true_implies,hin,afm,c0,c1,c2,c3,c4,c5,c6,c7,isInt,aO,au,an,aD,ak,w,beq_self_eq_true,cb,hu,ajF,n2,n3,n4,show(op==12)=false from by rw[qp];rfl,show(op==13)=false from by rw[qp];rfl,show(op==16)=false from by rw[qp];rfl,show(op==32)=false from by rw[qp];rfl,show(op==33)=false from by rw[qp];rfl,show(op==34)=false from by rw[qp];rfl,show(op==35)=false from by rw[qp];rfl,show(op==36)=false from by rw[qp];rfl,Yk]
    exact⟨rfl,B1,hG wa,⟨by omega,by omega⟩,⟨by omega,by omega⟩,uf (by simp[gZ,show kT 17=false from rfl,show iB 17=false from rfl,qp,bt,qU]) (by simp[gZ,show kT 17=false from rfl,show iB 17=false from rfl,qp,bt,jU];omega) k⟩
  · have Yk:(op==17)=false:=by simpa using qp
    cases qq:lQ op with
    |true=>
     have hop:=P6 qq qp
     have fin:=uf (i:=i+1) (n:=X.length+1+jU a) (X:=X++[.sc (.int .u8 ((op%256).toNat:Int))]++qU a) (by simp[gZ,ia,qp,qq,bt,qU]) (by simp[gZ,ia,qp,qq,bt,jU];omega) k
     have B:(X.length+1+jU a)*1≤70368744177664∧X.length+1+jU a≤70368744177664:=⟨by omega,by omega⟩
     have B1:(X.length+1)*1≤70368744177664∧X.length+1≤70368744177664:=⟨by omega,by omega⟩
     clear k cb
     rcases hop with rfl | rfl | rfl | rfl | rfl | rfl | rfl | rfl
     all_goals
      simp only[fK,dx,cJ,dJ,aV,aA.ok,hd,bw,ajp,di,and_true,true_and,ajE,o0,false_implies,true_implies,hin,afm,c0,c1,c2,c3,c4,c5,c6,c7,isInt,aO,au,an,aD,ak,w,beq_self_eq_true,bW,hu,ajF]
      exact⟨rfl,B1,hG wa,B,fin⟩
    |false=>
     have m : ∀c:Int,lQ c=true→(op==c)=false:=fun c hc=>by cases h:op==c with | false=>rfl | true=>rw[eq_of_beq h,hc] at qq;cases qq
     have B1:(X.length+1)*1≤70368744177664∧X.length+1≤70368744177664:=⟨by omega,by omega⟩
     by_cases Ez:op=14
     · have o14:(op==14)=true:=by rw[Ez];rfl
       simp only[fK,dx,cJ,dJ,aV,aA.ok,hd,bw,ajp,di,and_true,true_and,ajE,o0,false_implies,true_implies,hin,afm,c0,c1,c2,c3,c4,c5,c6,c7,isInt,aO,au,an,aD,ak,w,beq_self_eq_true,cb,hu,ajF,n2,n3,n4,m 12 rfl,m 13 rfl,m 16 rfl,m 32 rfl,m 33 rfl,m 34 rfl,m 35 rfl,m 36 rfl,Yk,o14]
       refine⟨rfl,B1,hG ⟨by omega,by omega⟩,⟨by omega,by omega⟩,?_⟩
       have k2:=UF (l:=l) (i:=i) (op:=op) (r:=r) (b:=b) (nn:=nn) (ll:=ll) (le:=le) (o:=o) hi wa wt' (by omega) tg.length 0 (X++[.sc (.int .u8 ((op%256).toNat:Int))]++qU tg.length) (by omega) (by simp only[dC,ml,aeK,q6];omega)
        (uf (by simp[gZ,show kT 14=false from rfl,show lQ 14=false from rfl,show iB 14=false from rfl,Ez,bt,qU]) (by simp[gZ,show kT 14=false from rfl,show lQ 14=false from rfl,show iB 14=false from rfl,Ez,bt,qU]) k)
       simp only[dC,ml,aeK,q6] at k2
       exact k2
     · have o14:(op==14)=false:=by simpa using Ez
       by_cases h63:op=63
       · have o63:(op==63)=true:=by rw[h63];rfl
         simp only[fK,dx,cJ,dJ,aV,aA.ok,hd,bw,ajp,di,and_true,true_and,ajE,o0,false_implies,true_implies,hin,afm,c0,c1,c2,c3,c4,c5,c6,c7,isInt,aO,au,an,aD,ak,w,beq_self_eq_true,cb,hu,ajF,n2,n3,n4,m 12 rfl,m 13 rfl,m 16 rfl,m 32 rfl,m 33 rfl,m 34 rfl,m 35 rfl,m 36 rfl,Yk,o14,o63]
         exact⟨rfl,B1,⟨by omega,by omega⟩,uf (by simp[gZ,show kT 63=false from rfl,show lQ 63=false from rfl,show iB 63=false from rfl,h63,bt]) (by simp[gZ,show kT 63=false from rfl,show lQ 63=false from rfl,show iB 63=false from rfl,h63,bt]) k⟩
       · have o63:(op==63)=false:=by simpa using h63
         by_cases EA:op=64
         · have o64:(op==64)=true:=by rw[EA];rfl
           simp only[fK,dx,cJ,dJ,aV,aA.ok,hd,bw,ajp,di,and_true,true_and,ajE,o0,false_implies,true_implies,hin,afm,c0,c1,c2,c3,c4,c5,c6,c7,isInt,aO,au,an,aD,ak,w,beq_self_eq_true,cb,hu,ajF,n2,n3,n4,m 12 rfl,m 13 rfl,m 16 rfl,m 32 rfl,m 33 rfl,m 34 rfl,m 35 rfl,m 36 rfl,Yk,o14,o63,o64]
           exact⟨rfl,B1,⟨by omega,by omega⟩,uf (by simp[gZ,show kT 64=false from rfl,show lQ 64=false from rfl,show iB 64=false from rfl,EA,bt]) (by simp[gZ,show kT 64=false from rfl,show lQ 64=false from rfl,show iB 64=false from rfl,EA,bt]) k⟩
         · have o64:(op==64)=false:=by simpa using EA
           by_cases EB:op=65
           · have o65:(op==65)=true:=by rw[EB];rfl
             simp only[fK,dx,cJ,dJ,aV,aA.ok,hd,bw,ajp,di,and_true,true_and,ajE,o0,false_implies,true_implies,hin,afm,c0,c1,c2,c3,c4,c5,c6,c7,isInt,aO,au,an,aD,ak,w,beq_self_eq_true,cb,hu,ajF,n2,n3,n4,m 12 rfl,m 13 rfl,m 16 rfl,m 32 rfl,m 33 rfl,m 34 rfl,m 35 rfl,m 36 rfl,Yk,o14,o63,o64,o65]
             exact⟨rfl,B1,Mb wn,⟨by omega,by omega⟩,uf (by simp[gZ,show kT 65=false from rfl,show lQ 65=false from rfl,show iB 65=false from rfl,EB,bt,qS]) (by simp[gZ,show kT 65=false from rfl,show lQ 65=false from rfl,show iB 65=false from rfl,EB,bt,jS];omega) k⟩
           · have o65:(op==65)=false:=by simpa using EB
             cases hst:iB op with
             |true=>
              rw[hst] at a1
              simp only[fK,dx,cJ,dJ,aV,aA.ok,hd,bw,ajp,di,and_true,true_and,ajE,o0,false_implies,true_implies,hin,afm,c0,c1,c2,c3,c4,c5,c6,c7,isInt,aO,au,an,aD,ak,w,beq_self_eq_true,cb,hu,ajF,n2,n3,n4,m 12 rfl,m 13 rfl,m 16 rfl,m 32 rfl,m 33 rfl,m 34 rfl,m 35 rfl,m 36 rfl,Yk,o14,o63,o64,o65]
              exact⟨rfl,B1,a1,hG wa,⟨by omega,by omega⟩,hG wb,⟨by omega,by omega⟩,uf (by simp[gZ,ia,qp,qq,Ez,h63,EA,EB,hst,bt,qU]) (by simp[gZ,ia,qp,qq,Ez,h63,EA,EB,hst,bt,jU];omega) k⟩
             |false=>
              rw[hst] at a1
              simp only[fK,dx,cJ,dJ,aV,aA.ok,hd,bw,ajp,di,and_true,true_and,ajE,o0,false_implies,true_implies,hin,afm,c0,c1,c2,c3,c4,c5,c6,c7,isInt,aO,au,an,aD,ak,w,beq_self_eq_true,cb,hu,ajF,n2,n3,n4,m 12 rfl,m 13 rfl,m 16 rfl,m 32 rfl,m 33 rfl,m 34 rfl,m 35 rfl,m 36 rfl,Yk,o14,o63,o64,o65]
              exact⟨rfl,B1,a1,uf (by simp[gZ,ia,qp,qq,Ez,h63,EA,EB,hst,bt]) (by simp[gZ,ia,qp,qq,Ez,h63,EA,EB,hst,bt]) k⟩
theorem P8 {l:List Ins} (hw:qn l) (hc:cz l≤1000000) (IH : ∀x∈l,DD x.l∧DD x.e) : ∀(n i:Nat) (X:List PV),i+n=l.length→X.length+20*cz (l.drop i)≤1000000000 →
  aU ae env (Mc l X i X.length) (.ret (.os (some 1) (X++bt (nJ (l.drop i))).length 1 (X++bt (nJ (l.drop i)))) [.dead,.tok]):=by
 have TJ:=jt l
 intro n
 induction n with
 |zero=>
  intro i X hi hX
  have hd:decide ((i:Int)<(l.length:Int))=false:=decide_eq_false (by omega)
  refine af aH (FP l X.length X i 0 0 0 0 0 [] [] [] 0 false jU jS qU qS jL qL) ?_
  simp only[fK,dx,cJ,dJ,aV,aA.ok,hd,and_true,o0,false_implies,true_implies,true_and]
  rw[agp (by omega)]
  exact vu (by simp[nJ,bt]) (by simp[nJ,bt]) rfl
 |succ n ih=>
  intro i X hi hX
  have nW:i<l.length:=by omega
  have hmem:l[i]∈l:=en nW
  have hcx:=fS hmem
  have hb:=Dz l[i]
  have hcd:cz (l.drop i)=jr l[i]+cz (l.drop (i+1)):=by rw[agj nW,cz]
  have k:=ih (i+1) (X++bt (gZ l[i])) (by omega) (by rw[dC,aT];omega)
  rw[show(X++bt (gZ l[i]))++bt (nJ (l.drop (i+1)))=X++bt (nJ (l.drop i)) by rw[FO nW,aS,List.append_assoc]] at k
  have FA:l[i]? = some l[i]:=List.getElem?_eq_getElem nW
  have UD:=lF hw hmem
  have pJ:=IH l[i] hmem
  generalize l[i]=x at *
  obtain⟨op,r,a,b,nn,tg,ll,le⟩:=x
  exact P7 FA (by omega) UD (by omega) (by omega) pJ.1 pJ.2 k
theorem P9 : ∀l:List Ins,qn l→cz l≤1000000→DD l:=by
 refine pI fun l IH hw hc X hX=> ?_
 have IH' : ∀x∈l,DD x.l∧DD x.e:=fun x hx=>by
  have h2:=lF hw hx
  have h3:=fS hx
  have h4:=IH x hx
  obtain⟨op,r,a,b,nn,tg,ll,le⟩:=x
  simp only[Ins.l,Ins.e,jr,Tw] at h2 h3 h4 ⊢
  exact⟨h4.1 h2.2.2.2.2.2.2.1.2 (by omega),h4.2 h2.2.2.2.2.2.2.2.2 (by omega)⟩
 have k:=P8 hw hc IH' l.length 0 X (by omega) (by rw[aeI];exact hX)
 rw[aeI,dC,aT] at k
 rw[iJ,lH]
 refine aa aH (UE l X.length X) ?_
 simp only[P5,aA.ok]
 exact aU.PU (len:=X.length) (sz:=1) (X:=X) (r:=[]) (by kernel_rfl) (by kernel_rfl) (aU.Az (by kernel_rfl) k)
theorem UG {l:List Ins} (hw:qn l) (hc:cz l≤1000000):az ae env 127 [.os none 0 0 [],aL l] [] (.os (some 1) (nJ l).length 1 (bt (nJ l))) [.dead,.tok]:=by
 have h:=P9 l hw hc [] (by simp only[aeK];omega)
 rw[iJ,lH,aeK,Nat.zero_add,List.nil_append] at h
 exact az.kJ (c9 1) h
end Go.Proofs.YtncncijedmfpjaaGreatDoor.N
end
section
set_option linter.unusedSimpArgs false
set_option linter.unusedVariables false
namespace Go.Proofs.YtncncijedmfpjaaGreatDoor.N
open Go Go.Am
def pbC (l:List Ins) (e:Int) (n:Nat) (X:List PV) (f:FuncId) (_:List AV) (m:Mem):Option (AV×Mem):=cond (ba f 109||ba f 122) (some (sI .i64 e,m)) (cond (ba f 127) (some (.os (some 1) n 1 X,[.dead,.tok])) (cond (ba f 123) (some (.os (some 0) n 1 X,[.tok])) none))
def pcC (lo:Int) (l:List Ins) (e:Int) (n k:Nat) (X Y:List PV) (f:FuncId) (_:List AV) (m:Mem):Option (AV×Mem):=cond (ba f 119||ba f 106) (some (.aK [.p (.ps n 1 X),sI .i64 e],m)) (cond (ba f 45||ba f 52) (some (.p (.ps k 1 Y),m)) none)
def agk (l:List Ins) (e:Int) (n:Nat) (X:List PV):bA:=aM (pbC l e n X) aC [] [(119,0,0)] [(119,5,3)]
def ak3:Sc:= .fin
def IP (l:List Ins) (e:Int) (n:Nat) (X:List PV):aA:=
 (.call ⟨109,[.p (.ps l.length 8 (aj l))],[],sI .i64 e,[]⟩
 (.test (e != 0)
 (.out (.ret (.aK [bB,sI .i64 e]) []))
 (.call ⟨127,[bB,.p (.ps l.length 8 (aj l))],[],.os (some 1) n 1 X,[.dead,.tok]⟩
 (.must (((n+1)*1).ble aR&&(n+1).ble aR&&true)
 (.out (.ret (.aK [.os (some 0) (n+1) 1 (X++[.sc (.int .u8 11)]),sI .i64 0]) [.tok]))))))
theorem Kp (l:List Ins) (e:Int) (n:Nat) (X:List PV):aI ae env (agk l e n X) 1000000 119 ([aL l]) ([]) ak3=IP l e n X:=by kernel_rfl
def agl (l:List Ins) (e:Int) (n:Nat) (X:List PV):bA:=aM (pbC l e n X) aC [] [(106,0,0)] [(106,5,3)]
def ak4:Sc:= .fin
def IQ (l:List Ins) (e:Int) (n:Nat) (X:List PV):aA:=
 (.call ⟨122,[.p (.ps l.length 8 (aj l))],[],sI .i64 e,[]⟩
 (.test (e != 0)
 (.out (.ret (.aK [bB,sI .i64 e]) []))
 (.call ⟨123,[.p (.ps l.length 8 (aj l))],[],.os (some 0) n 1 X,[.tok]⟩
 (.must (((n+1)*1).ble aR&&(n+1).ble aR&&true)
 (.out (.ret (.aK [.os (some 0) (n+1) 1 (X++[.sc (.int .u8 11)]),sI .i64 0]) [.tok]))))))
theorem Kq (l:List Ins) (e:Int) (n:Nat) (X:List PV):aI ae env (agl l e n X) 1000000 106 ([aL l]) ([]) ak4=IQ l e n X:=by kernel_rfl
def agm (lo:Int) (l:List Ins) (e:Int) (n:Nat) (k:Nat) (X:List PV) (Y:List PV):bA:=aM (pcC lo l e n k X Y) (pcC lo l e n k X Y) [] [(95,2,4),(95,0,0),(95,0,1),(95,0,2)] [(95,9,5),(95,9,7),(95,10,2)]
def ak5:Sc:=(.fork (.lit .fin) .fin)
def ug (lo:Int) (l:List Ins) (e:Int) (n:Nat) (k:Nat) (X:List PV) (Y:List PV):aA:=
 (.test (decide (lo<0))
 (.out (.ret (.aK [bB,sI .i64 2]) []))
 (.test (decide (lo>50000))
 (.out (.ret (.aK [bB,sI .i64 2]) []))
 (.call ⟨119,[.p (.ps l.length 8 (aj l))],[],.aK [.p (.ps n 1 X),sI .i64 e],[]⟩
 (.test (e != 0)
 (.out (.ret (.aK [bB,sI .i64 e]) []))
 (.test (decide (lo>0))
 (.call ⟨45,[sI .u32 (aeG.wrap lo)],[],.p (.ps k 1 Y),[]⟩
 (.must (((1+k)*1).ble aR&&(1+k).ble aR&&true)
 (.must (((1+k+1)*1).ble aR&&(1+k+1).ble aR&&true)
 (.must (((1+k+1+n)*1).ble aR&&(1+k+1+n).ble aR&&true)
 (.out (.ret (.aK [.os (some 0) (1+k+1+n) 1 (.sc (.int .u8 1)::(([].append Y).append [.sc (.int .u8 127)]).append X),sI .i64 0]) [.tok]))))))
 (.must (((1+n)*1).ble aR&&(1+n).ble aR&&true)
 (.out (.ret (.aK [.os (some 0) (1+n) 1 (.sc (.int .u8 0)::[].append X),sI .i64 0]) [.tok]))))))))
theorem UH (lo:Int) (l:List Ins) (e:Int) (n:Nat) (k:Nat) (X:List PV) (Y:List PV):aI ae env (agm lo l e n k X Y) 1000000 95 ([AV.agg [sI re lo,aL l]]) ([]) ak5=ug lo l e n k X Y:=by kernel_rfl
def agn (lo:Int) (l:List Ins) (e:Int) (n:Nat) (k:Nat) (X:List PV) (Y:List PV):bA:=aM (pcC lo l e n k X Y) (pcC lo l e n k X Y) [] [(57,2,4),(57,0,0),(57,0,1),(57,0,2)] [(57,8,2),(57,9,5),(57,10,2),(57,11,2)]
def ak6:Sc:=(.fork (.lit .fin) .fin)
def uh (lo:Int) (l:List Ins) (e:Int) (n:Nat) (k:Nat) (X:List PV) (Y:List PV):aA:=
 (.test (decide (lo<0))
 (.out (.ret (.aK [bB,sI .i64 2]) []))
 (.test (decide (lo>50000))
 (.out (.ret (.aK [bB,sI .i64 2]) []))
 (.call ⟨106,[.p (.ps l.length 8 (aj l))],[],.aK [.p (.ps n 1 X),sI .i64 e],[]⟩
 (.test (e != 0)
 (.out (.ret (.aK [bB,sI .i64 e]) []))
 (.test (lo==0)
 (.must (((1+n)*1).ble aR&&(1+n).ble aR&&true)
 (.out (.ret (.aK [.os (some 0) (1+n) 1 (.sc (.int .u8 0)::[].append X),sI .i64 0]) [.tok])))
 (.call ⟨52,[sI .u32 (aeG.wrap lo)],[],.p (.ps k 1 Y),[]⟩
 (.must (((1+k)*1).ble aR&&(1+k).ble aR&&true)
 (.must (((1+k+1)*1).ble aR&&(1+k+1).ble aR&&true)
 (.must (((1+k+1+n)*1).ble aR&&(1+k+1+n).ble aR&&true)
 (.out (.ret (.aK [.os (some 0) (1+k+1+n) 1 (.sc (.int .u8 1)::(([].append Y).append [.sc (.int .u8 127)]).append X),sI .i64 0]) [.tok])))))))))))
theorem UI (lo:Int) (l:List Ins) (e:Int) (n:Nat) (k:Nat) (X:List PV) (Y:List PV):aI ae env (agn lo l e n k X Y) 1000000 57 ([AV.agg [sI re lo,aL l]]) ([]) ak6=uh lo l e n k X Y:=by kernel_rfl
theorem az.lI {f:FuncId} {args:List AV} {tok:Option Nat} {n sz:Nat} {X:List PV} {u:PV} {m':Mem} (h:az ae env f args [] (.aK [.os tok n sz X,.p u]) m'):az ae env f args [] (.aK [.p (.ps n sz X),.p u]) []:=
 az.weak h fun g w cv hv=>by
  have mono : ∀{v:PV} {c:Value},VP g w v c→VP {g with bX:=fun _=>none} w v c:=fun k=>VP.mono (g:=g) (g':={g with bX:=fun _=>none}) (w:=w) (w':=w) (fun _ _ q=>⟨q,rfl⟩) k
  cases hv with
  |aK _ cs hl hc=>
   obtain⟨cs⟩:=cs
   match cs,bP.cY hl hc with
   |[a,b],⟨h1,h2,_⟩=>
    refine VA.mP.2 ⟨?_,?_,trivial⟩
    · cases h1 with
      |os _ _ _ _ a cap h _=>exact .p _ _ (mono h)
    · cases h2 with
      |p _ _ h=>exact .p _ _ (mono h)
theorem az.jw {f:FuncId} {args:List AV} {u:PV} {m':Mem} (h:az ae env f args [] (.aK [.os none 0 0 [],.p u]) m'):az ae env f args [] (.aK [.p (.ps 0 1 []),.p u]) []:=
 az.weak h fun g w cv hv=>by
  have mono : ∀{v:PV} {c:Value},VP g w v c→VP {g with bX:=fun _=>none} w v c:=fun k=>VP.mono (g:=g) (g':={g with bX:=fun _=>none}) (w:=w) (w':=w) (fun _ _ q=>⟨q,rfl⟩) k
  cases hv with
  |aK _ cs hl hc=>
   obtain⟨cs⟩:=cs
   match cs,bP.cY hl hc with
   |[a,b],⟨h1,h2,_⟩=>
    refine VA.mP.2 ⟨?_,?_,trivial⟩
    · cases h1 with
      |os _ _ _ _ a cap h _=>
       cases h with
       |qA _ _ _ hz=>exact .p _ _ (.qA _ _ _ (.inl (c9 1)))
       |ps _ _ _ b o cap f hl hc hz hp hv=>exact .p _ _ (.ps _ _ _ b o cap f (by simp) (Nat.zero_le _) (c9 1) (fun k hk=>absurd hk (by simp)) (fun k hk=>absurd hk (by simp)))
    · cases h2 with
      |p _ _ h=>exact .p _ _ (mono h)
def kM (l:List Ins):List Nat:=if bT dQ l=0 then nJ l++[11] else[]
def Qa (lo:Int) (l:List Ins):Int:=if lo<0∨lo>50000 then 2 else bT dQ l
def AA (lo:Int) (l:List Ins):List Nat:=if Qa lo l=0 then(if lo=0 then[0] else(1::pU 4 lo.toNat)++[127])++kM l else[]
theorem ago {l:List Ins} (h:bT dQ l=0):sW dQ l=true:=by
 cases h1:sW dQ l with
 |true=>rfl
 |false=>simp[bT,h1] at h
theorem Md {t:Option Nat} {n m:Nat} {X Y:List PV} {u:AV} {mm:Mem} (h:X=Y) (h':n=Y.length) (e:m=Y.length):Out.ret (.aK [.os t n 1 X,u]) mm = .ret (.aK [.os t m 1 Y,u]) mm:=by subst h;rw[h',e]
theorem oL {l:List Ins} (hc:cz l≤1000000):(kM l).length≤20000001:=by
 have:=iC l
 unfold kM
 split
 · simp;omega
 · simp
theorem vP {l:List Ins} (hw:qn l) (hc:cz l≤1000000):az ae env 119 [aL l] [] (.aK [.p (.ps (kM l).length 1 (bt (kM l))),sI .i64 (bT dQ l)]) []:=by
 have bw:aR=70368744177664:=rfl
 have h20:=iC l
 have hn:=mw l
 have h1:=xW Bq l (by omega)
 by_cases he:bT dQ l=0
 · have e1:kM l=nJ l++[11]:=if_pos he
   rw[e1,he]
   rw[he] at h1
   refine az.lI (tok:=some 0) (m':=[.tok]) (aa aH (Kp l 0 (nJ l).length (bt (nJ l))) ?_)
   simp only[IP,aV,aA.ok,bw,ajp,di,and_true,show((0:Int) != 0)=false from rfl,o0,false_implies,true_implies,true_and]
   exact⟨h1,UG hw hc,⟨by omega,by omega⟩,Md (by simp[bt]) (by simp[bt]) (by simp[bt])⟩
 · have e1:kM l=[]:=if_neg he
   rw[e1]
   have hne:(bT dQ l != 0)=true:=by simpa using he
   refine az.jw (m':=[]) (aa aH (Kp l (bT dQ l) (nJ l).length (bt (nJ l))) ?_)
   simp only[IP,aV,aA.ok,hne,ajE,false_implies,true_implies,and_true]
   exact h1
theorem Kr {l:List Ins} (hw:qn l) (hc:cz l≤1000000):az ae env 106 [aL l] [] (.aK [.p (.ps (kM l).length 1 (bt (kM l))),sI .i64 (bT dQ l)]) []:=by
 have bw:aR=70368744177664:=rfl
 have h20:=iC l
 have hn:=mw l
 have Al:iT=1000000000000:=rfl
 have h1:=uX uW l (by omega)
 by_cases he:bT dQ l=0
 · have e1:kM l=nJ l++[11]:=if_pos he
   have h2:=(IN l hw (ago he) hc).2
   rw[iJ,lH] at h2
   rw[e1,he]
   rw[he] at h1
   refine az.lI (tok:=some 0) (m':=[.tok]) (aa aH (Kq l 0 (nJ l).length (bt (nJ l))) ?_)
   simp only[IQ,aV,aA.ok,bw,ajp,di,and_true,show((0:Int) != 0)=false from rfl,o0,false_implies,true_implies,true_and]
   exact⟨h1,h2,⟨by omega,by omega⟩,Md (by simp[bt]) (by simp[bt]) (by simp[bt])⟩
 · have e1:kM l=[]:=if_neg he
   rw[e1]
   have hne:(bT dQ l != 0)=true:=by simpa using he
   refine az.jw (m':=[]) (aa aH (Kq l (bT dQ l) (nJ l).length (bt (nJ l))) ?_)
   simp only[IQ,aV,aA.ok,hne,ajE,false_implies,true_implies,and_true]
   exact h1
theorem UJ {l:List Ins} (lo:Int) (hw:qn l) (hc:cz l≤1000000):az ae env 95 [.agg [sI .i64 lo,aL l]] [] (.aK [.p (.ps (AA lo l).length 1 (bt (AA lo l))),sI .i64 (Qa lo l)]) []:=by
 have bw:aR=70368744177664:=rfl
 have hl:=oL (l:=l) hc
 have h1:=vP hw hc
 have hu:=kK 4 lo.toNat
 have t1:=UH lo l (bT dQ l) (kM l).length (pU 4 lo.toNat).length (bt (kM l)) (bt (pU 4 lo.toNat))
 have yf : ∀e:Int,Qa lo l=e→e≠0→az ae env 95 [.agg [sI .i64 lo,aL l]] [] (.aK [.os none 0 0 [],sI .i64 e]) []→az ae env 95 [.agg [sI .i64 lo,aL l]] [] (.aK [.p (.ps (AA lo l).length 1 (bt (AA lo l))),sI .i64 (Qa lo l)]) []:=fun e h h0 k=>by
  have:AA lo l=[]:=if_neg (by rw[h];exact h0)
  rw[this,h];exact az.jw k
 by_cases c1:lo<0
 · refine yf 2 (if_pos (.inl c1)) (by decide) (aa aH t1 ?_)
   simp only[ug,aV,aA.ok,c1,decide_true,ajE,false_implies,true_implies,and_true]
 · by_cases c2:lo>50000
   · refine yf 2 (if_pos (.inr c2)) (by decide) (aa aH t1 ?_)
     simp only[ug,aV,aA.ok,c1,c2,decide_true,decide_false,ajE,o0,false_implies,true_implies,and_true,true_and]
   · have e0:Qa lo l=bT dQ l:=if_neg (by omega)
     by_cases he:bT dQ l=0
     · have e1:AA lo l=(if lo=0 then[0] else(1::pU 4 lo.toNat)++[127])++kM l:=if_pos (by rw[e0,he])
       rw[e0,he,e1]
       rw[he] at h1 t1
       by_cases c3:lo=0
       · have d3:decide (lo>0)=false:=decide_eq_false (by omega)
         refine az.lI (tok:=some 0) (m':=[.tok]) (aa aH t1 ?_)
         simp only[ug,aV,aA.ok,c1,c2,d3,decide_true,decide_false,bw,ajp,di,and_true,show((0:Int) != 0)=false from rfl,ajE,o0,false_implies,true_implies,true_and]
         refine⟨h1,⟨by omega,by omega⟩,Md ?_ ?_ ?_⟩
         · simp[bt,c3]
         · simp[bt,c3];omega
         · simp[bt,c3]
       · have d3:decide (lo>0)=true:=decide_eq_true (by omega)
         have aam:aeG.wrap lo=((lo.toNat:Nat):Int):=by rw[uQ (by omega) (by omega)];omega
         refine az.lI (tok:=some 0) (m':=[.tok]) (aa aH t1 ?_)
         simp only[ug,aV,aA.ok,c1,c2,d3,decide_true,decide_false,bw,aam,ajp,di,and_true,show((0:Int) != 0)=false from rfl,ajE,o0,false_implies,true_implies,true_and]
         refine⟨h1,Bu lo.toNat (by omega),⟨by omega,by omega⟩,⟨by omega,by omega⟩,⟨by omega,by omega⟩,Md ?_ ?_ ?_⟩
         · simp[bt,c3]
         · simp[bt,c3];omega
         · simp[bt,c3]
     · have hne:(bT dQ l != 0)=true:=by simpa using he
       refine yf _ e0 he (aa aH t1 ?_)
       simp only[ug,aV,aA.ok,c1,c2,hne,decide_false,ajE,o0,false_implies,true_implies,and_true,true_and]
       exact h1
theorem UK {l:List Ins} (lo:Int) (hw:qn l) (hc:cz l≤1000000):az ae env 57 [.agg [sI .i64 lo,aL l]] [] (.aK [.p (.ps (AA lo l).length 1 (bt (AA lo l))),sI .i64 (Qa lo l)]) []:=by
 have bw:aR=70368744177664:=rfl
 have hl:=oL (l:=l) hc
 have h1:=Kr hw hc
 have hu:=kK 4 lo.toNat
 have t1:=UI lo l (bT dQ l) (kM l).length (pU 4 lo.toNat).length (bt (kM l)) (bt (pU 4 lo.toNat))
 have yf : ∀e:Int,Qa lo l=e→e≠0→az ae env 57 [.agg [sI .i64 lo,aL l]] [] (.aK [.os none 0 0 [],sI .i64 e]) []→az ae env 57 [.agg [sI .i64 lo,aL l]] [] (.aK [.p (.ps (AA lo l).length 1 (bt (AA lo l))),sI .i64 (Qa lo l)]) []:=fun e h h0 k=>by
  have:AA lo l=[]:=if_neg (by rw[h];exact h0)
  rw[this,h];exact az.jw k
 by_cases c1:lo<0
 · refine yf 2 (if_pos (.inl c1)) (by decide) (aa aH t1 ?_)
   simp only[uh,aV,aA.ok,c1,decide_true,ajE,false_implies,true_implies,and_true]
 · by_cases c2:lo>50000
   · refine yf 2 (if_pos (.inr c2)) (by decide) (aa aH t1 ?_)
     simp only[uh,aV,aA.ok,c1,c2,decide_true,decide_false,ajE,o0,false_implies,true_implies,and_true,true_and]
   · have e0:Qa lo l=bT dQ l:=if_neg (by omega)
     by_cases he:bT dQ l=0
     · have e1:AA lo l=(if lo=0 then[0] else(1::pU 4 lo.toNat)++[127])++kM l:=if_pos (by rw[e0,he])
       rw[e0,he,e1]
       rw[he] at h1 t1
       by_cases c3:lo=0
       · have d3:(lo==0)=true:=by rw[c3];rfl
         refine az.lI (tok:=some 0) (m':=[.tok]) (aa aH t1 ?_)
         simp only[uh,aV,aA.ok,c1,c2,d3,decide_true,decide_false,bw,ajp,di,and_true,show((0:Int) != 0)=false from rfl,ajE,o0,false_implies,true_implies,true_and]
         refine⟨h1,⟨by omega,by omega⟩,Md ?_ ?_ ?_⟩
         · simp[bt,c3]
         · simp[bt,c3];omega
         · simp[bt,c3]
       · have d3:(lo==0)=false:=by simpa using c3
         have aam:aeG.wrap lo=((lo.toNat:Nat):Int):=by rw[uQ (by omega) (by omega)];omega
         refine az.lI (tok:=some 0) (m':=[.tok]) (aa aH t1 ?_)
         simp only[uh,aV,aA.ok,c1,c2,d3,decide_true,decide_false,bw,aam,ajp,di,and_true,show((0:Int) != 0)=false from rfl,ajE,o0,false_implies,true_implies,true_and]
         refine⟨h1,yd lo.toNat (by omega),⟨by omega,by omega⟩,⟨by omega,by omega⟩,⟨by omega,by omega⟩,Md ?_ ?_ ?_⟩
         · simp[bt,c3]
         · simp[bt,c3];omega
         · simp[bt,c3]
     · have hne:(bT dQ l != 0)=true:=by simpa using he
       refine yf _ e0 he (aa aH t1 ?_)
       simp only[uh,aV,aA.ok,c1,c2,hne,decide_false,ajE,o0,false_implies,true_implies,and_true,true_and]
       exact h1
end Go.Proofs.YtncncijedmfpjaaGreatDoor.N
end
section
namespace Go.Am
open Go.RowKit
section
variable {H:Type} {enc:TypeId×Value→H} {P:Program} {w:World} {base:Nat} {spare:Nat→Bool} {held:Bool} {tL tI ti tu tn tt:TypeId} {fs:Array Field}
theorem yg {g:Gh} {w:World} : ∀{l:List PV} {cs:List Value},JQ g w l cs→dj g w (l.map .p) cs
 |[],[],_=>trivial
 |_::_,_::_,h=>⟨.p _ _ h.1,yg h.2⟩
 |[],_::_,h=>h.elim
 |_::_,[],h=>h.elim
end
end Go.Am
end
section
namespace Go.Am
open Go.RowKit
section
variable {H:Type} {enc:TypeId×Value→H} {P:Program} {w:World} {base:Nat} {spare:Nat→Bool} {held:Bool}
theorem Yu {g:Gh} {w:World} {l:List PV} {cs:Array Value} (h:JQ g w l cs.toList):VA g w (.agg (l.map .p)) (.agg cs):=by
 rw[VA.wD]
 exact yg h
end
end Go.Am
end
