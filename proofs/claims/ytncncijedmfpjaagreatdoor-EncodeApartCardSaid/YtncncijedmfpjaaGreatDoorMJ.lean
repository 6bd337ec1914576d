import Derived.Test.YtncncijedmfpjaaGreatDoorMI
import Derived.Test.YtncncijedmfpjaaGreatDoorMH
open Nat renaming le_of_ble_eq_true→ft,ble_eq→acO,beq→bj,zero_add→pD,le_refl→dd,add_mul→pB
open Go.Proofs.Tryz renaming prog→ae
open Go.Fn renaming func→acU
open Go.IntKind renaming i64→sa,u32→acu,u8→acQ,i32→acR
open Bool renaming false_eq_true→pn,true_eq_false→acS,and_eq_true→dp
open List renaming length_append→dT,length_cons→od,length_nil→acA,drop_succ_cons→acY,take_succ_cons→acZ,drop_zero→acw,take_zero→ac0,getD_eq_getElem?_getD→di,drop_eq_nil_of_le→ac1,flatMap_cons→ac2,drop_eq_getElem_cons→ac3,getElem_mem→fg
open Int renaming toNat_natCast→acN,reduceBEq→ac4
open Go.Lit renaming int→ac5
open Go.DataW renaming trod→aca
noncomputable section
section
set_option linter.unusedSimpArgs false
set_option linter.unusedVariables false
namespace Go.Proofs.YtncncijedmfpjaaGreatDoor.N
open Go Go.Am
abbrev aab:=Int→Nat
abbrev aac:=Int→List PV
abbrev aad:=ByteArray→Nat
abbrev aae:=ByteArray→List PV
def ptC (l:List Ins) (k:Nat) (X:List PV) (i:Nat) (op r a b nn:Int) (tg:List Int) (ll le:List Ins) (al:Int) (st:Bool) (J J':aab) (Q Q':aac) (JJ:List PV→Nat) (QQ:List PV→List PV) (f:FuncId) (_:List AV) (m:Mem):Option (AV×Mem):=cond (bj f 139) (some (.aK [sI .u32 al,sB st],m)) none
def ptL (l:List Ins) (k:Nat) (X:List PV) (i:Nat) (op r a b nn:Int) (tg:List Int) (ll le:List Ins) (al:Int) (st:Bool) (J J':aab) (Q Q':aac) (JJ:List PV→Nat) (QQ:List PV→List PV) (f:FuncId) (args:List AV) (m:Mem):Option (AV×Mem):=
 cond (bj f 45) (match args with | [.p (.sc (.int _ n))]=>some (.p (.ps (J n) 1 (Q n)),m) | _=>none)
 (cond (bj f 138) (match args with | [.p (.sc (.int _ n))]=>some (.p (.ps (J' n) 1 (Q' n)),m) | _=>none)
 (cond (bj f 127) (match args with | [.os (some _) k' _ X',.p (.ps _ _ cs)]=>some (.os (some 1) (k'+JJ cs) 1 (X'++QQ cs),[.dead,.tok]) | _=>none) none))
def ptS (l:List Ins) (k:Nat) (X:List PV) (i:Nat) (op r a b nn:Int) (tg:List Int) (ll le:List Ins) (al:Int) (st:Bool) (J J':aab) (Q Q':aac) (JJ:List PV→Nat) (QQ:List PV→List PV):FuncId→Nat→Nat→Option (AV→AV):=cu [(127,5,1,CL op r a b nn tg ll le),(127,47,0,sI .i64 ((i+1:Nat):Int))]
def abc (l:List Ins) (k:Nat) (X:List PV) (i j:Nat) (op r a b nn:Int) (tg:List Int) (ll le:List Ins) (t:Int) (J:aab) (Q:aac):FuncId→Nat→Nat→Option (AV→AV):=cu [(127,38,1,sI .u32 t),(127,40,0,sI .i64 ((j+1:Nat):Int)),(127,47,0,sI .i64 ((i+1:Nat):Int))]
def abd (l:List Ins) (k:Nat) (X:List PV) (i j:Nat) (op r a b nn:Int) (tg:List Int) (ll le:List Ins) (t:Int) (J:aab) (Q:aac) (f:FuncId) (args:List AV) (m:Mem):Option (AV×Mem):=
 cond (bj f 45) (match args with | [.p (.sc (.int _ n))]=>some (.p (.ps (J n) 1 (Q n)),m) | _=>none) none
def XP:bN:=aP aF aC [(127,0)] [] []
def abe:Sc:= .fin
def Lm (l:List Ins) (k:Nat) (X:List PV):aA:=
 (.at (af ae env 127 0 [.mp 1 0,.fn (acU 137) [] [.mp 1 0],.p (.ps l.length 8 (ak l)),sI .i64 (↑l.length:Int),sI .i64 0] ([.tok,.ac [.os (some 0) k 1 X]]) 1 130))
theorem OW (l:List Ins) (k:Nat) (X:List PV):aG ae env XP 1000000 127 ([AV.os (Option.some 0) k 1 X,aL l]) ([aN.tok]) abe=Lm l k X:=by kernel_rfl
def Ta (l:List Ins) (k:Nat) (X:List PV) (i:Nat) (op r a b nn:Int) (tg:List Int) (ll:List Ins) (le:List Ins) (al:Int) (st:Bool) (J:aab) (J':aab) (Q:aac) (Q':aac) (JJ:List PV→Nat) (QQ:List PV→List PV):bN:=gI (ptC l k X i op r a b nn tg ll le al st J J' Q Q' JJ QQ) (ptL l k X i op r a b nn tg ll le al st J J' Q Q' JJ QQ) [(127,0),(127,17)] [(127,0,1),(127,0,2),(127,0,4),(127,0,5),(127,0,6),(127,0,3),(127,0,7),(127,0,14),(127,0,8),(127,0,9),(127,0,10),(127,0,11),(127,0,12),(127,0,13),(127,0,15),(127,0,16),(127,0,19),(127,0,20),(127,0,21),(127,0,22)] [(127,5,0),(127,5,1),(127,6,5),(127,0,6),(127,0,7),(127,21,2),(137,0,0),(127,33,2),(127,44,2),(127,0,22)] (ptS l k X i op r a b nn tg ll le al st J J' Q Q' JJ QQ)
def XQ:Sc:=(.fork (.fork (.yes .fin) (.fork (.yes .fin) (.fork .fin (.fork (.yes .fin) (.fork (.yes .fin) (.fork (.yes .fin) (.fork (.yes .fin) (.fork (.yes .fin) (.fork (.yes .fin) (.fork (.yes .fin) (.fork .fin (.fork .fin (.fork .fin (.fork (.yes .fin) .fin)))))))))))))) .fin)
def cW (l:List Ins) (k:Nat) (X:List PV) (i:Nat) (op r:Int) (ll:List Ins) (le:List Ins) (JJ:List PV→Nat) (QQ:List PV→List PV):aA:=
 (.test (r==1) (.call ⟨127,[.os (some 0) (k+1+1) 1 (X++[.sc (.int .u8 (acQ.wrap op))]++[.sc (.int .u8 127)]),.p (.ps ll.length 8 (ak ll))],[.tok],.os (some 1) (k+1+1+JJ (ak ll)) 1 (X++[.sc (.int .u8 (acQ.wrap op))]++[.sc (.int .u8 127)]++QQ (ak ll)),[.dead,.tok]⟩ (.must (((k+1+1)*1).ble bH&&(k+1+1).ble bH&&true&&true&&true) (.test (decide ((↑le.length:Int)>0)) (.call ⟨127,[.os (some 0) (k+1+1+JJ (ak ll)+1) 1 (X++[.sc (.int .u8 (acQ.wrap op))]++[.sc (.int .u8 127)]++QQ (ak ll)++[.sc (.int .u8 5)]),.p (.ps le.length 8 (ak le))],[.tok],.os (some 1) (k+1+1+JJ (ak ll)+1+JJ (ak le)) 1 (X++[.sc (.int .u8 (acQ.wrap op))]++[.sc (.int .u8 127)]++QQ (ak ll)++[.sc (.int .u8 5)]++QQ (ak le)),[.dead,.tok]⟩ (.must (((k+1+1+JJ (ak ll)+1)*1).ble bH&&(k+1+1+JJ (ak ll)+1).ble bH&&true&&true&&true) (.must (((k+1+1+JJ (ak ll)+1+JJ (ak le)+1)*1).ble bH&&(k+1+1+JJ (ak ll)+1+JJ (ak le)+1).ble bH&&true) (.need (sI .i64 (sa.wrap ((↑i:Int)+1))=sI sa (↑(i+1):Int)) (.at (af ae env 127 0 [.mp 1 0,.fn (acU 137) [] [.mp 1 0],.p (.ps l.length 8 (ak l)),sI .i64 (↑l.length:Int),sI .i64 (↑(i+1):Int)] ([.dead,.ac [.os (some 2) (k+1+1+JJ (ak ll)+1+JJ (ak le)+1) 1 (X++[.sc (.int .u8 (acQ.wrap op))]++[.sc (.int .u8 127)]++QQ (ak ll)++[.sc (.int .u8 5)]++QQ (ak le)++[.sc (.int .u8 11)])],.tok]) 1 130)))))) (.must (((k+1+1+JJ (ak ll)+1)*1).ble bH&&(k+1+1+JJ (ak ll)+1).ble bH&&true) (.need (sI .i64 (sa.wrap ((↑i:Int)+1))=sI sa (↑(i+1):Int)) (.at (af ae env 127 0 [.mp 1 0,.fn (acU 137) [] [.mp 1 0],.p (.ps l.length 8 (ak l)),sI .i64 (↑l.length:Int),sI .i64 (↑(i+1):Int)] ([.dead,.ac [.os (some 2) (k+1+1+JJ (ak ll)+1) 1 (X++[.sc (.int .u8 (acQ.wrap op))]++[.sc (.int .u8 127)]++QQ (ak ll)++[.sc (.int .u8 11)])],.tok]) 1 130))))))) (.call ⟨127,[.os (some 0) (k+1+1) 1 (X++[.sc (.int .u8 (acQ.wrap op))]++[.sc (.int .u8 64)]),.p (.ps ll.length 8 (ak ll))],[.tok],.os (some 1) (k+1+1+JJ (ak ll)) 1 (X++[.sc (.int .u8 (acQ.wrap op))]++[.sc (.int .u8 64)]++QQ (ak ll)),[.dead,.tok]⟩ (.must (((k+1+1)*1).ble bH&&(k+1+1).ble bH&&true&&true&&true) (.test (decide ((↑le.length:Int)>0)) (.call ⟨127,[.os (some 0) (k+1+1+JJ (ak ll)+1) 1 (X++[.sc (.int .u8 (acQ.wrap op))]++[.sc (.int .u8 64)]++QQ (ak ll)++[.sc (.int .u8 5)]),.p (.ps le.length 8 (ak le))],[.tok],.os (some 1) (k+1+1+JJ (ak ll)+1+JJ (ak le)) 1 (X++[.sc (.int .u8 (acQ.wrap op))]++[.sc (.int .u8 64)]++QQ (ak ll)++[.sc (.int .u8 5)]++QQ (ak le)),[.dead,.tok]⟩ (.must (((k+1+1+JJ (ak ll)+1)*1).ble bH&&(k+1+1+JJ (ak ll)+1).ble bH&&true&&true&&true) (.must (((k+1+1+JJ (ak ll)+1+JJ (ak le)+1)*1).ble bH&&(k+1+1+JJ (ak ll)+1+JJ (ak le)+1).ble bH&&true) (.need (sI .i64 (sa.wrap ((↑i:Int)+1))=sI sa (↑(i+1):Int)) (.at (af ae env 127 0 [.mp 1 0,.fn (acU 137) [] [.mp 1 0],.p (.ps l.length 8 (ak l)),sI .i64 (↑l.length:Int),sI .i64 (↑(i+1):Int)] ([.dead,.ac [.os (some 2) (k+1+1+JJ (ak ll)+1+JJ (ak le)+1) 1 (X++[.sc (.int .u8 (acQ.wrap op))]++[.sc (.int .u8 64)]++QQ (ak ll)++[.sc (.int .u8 5)]++QQ (ak le)++[.sc (.int .u8 11)])],.tok]) 1 130)))))) (.must (((k+1+1+JJ (ak ll)+1)*1).ble bH&&(k+1+1+JJ (ak ll)+1).ble bH&&true) (.need (sI .i64 (sa.wrap ((↑i:Int)+1))=sI sa (↑(i+1):Int)) (.at (af ae env 127 0 [.mp 1 0,.fn (acU 137) [] [.mp 1 0],.p (.ps l.length 8 (ak l)),sI .i64 (↑l.length:Int),sI .i64 (↑(i+1):Int)] ([.dead,.ac [.os (some 2) (k+1+1+JJ (ak ll)+1) 1 (X++[.sc (.int .u8 (acQ.wrap op))]++[.sc (.int .u8 64)]++QQ (ak ll)++[.sc (.int .u8 11)])],.tok]) 1 130))))))))
def bX (l:List Ins) (k:Nat) (X:List PV) (i:Nat) (op a:Int) (J:aab) (Q:aac):aA:=
 (.call ⟨45,[sI .u32 a],[],.p (.ps (J a) 1 (Q a)),[]⟩ (.must (((k+1+J a)*1).ble bH&&(k+1+J a).ble bH&&true&&true&&true) (.must true (.need (sI .i64 (sa.wrap ((↑i:Int)+1))=sI sa (↑(i+1):Int)) (.at (af ae env 127 0 [.mp 1 0,.fn (acU 137) [] [.mp 1 0],.p (.ps l.length 8 (ak l)),sI .i64 (↑l.length:Int),sI .i64 (↑(i+1):Int)] ([.dead,.ac [.os (some 2) (k+1+J a) 1 (X++[.sc (.int .u8 (acQ.wrap op))]++Q a)],.tok]) 1 130))))))
def dB (l:List Ins) (k:Nat) (X:List PV) (i:Nat) (op:Int):aA:=
 (.must (((k+1+1)*1).ble bH&&(k+1+1).ble bH&&true) (.need (sI .i64 (sa.wrap ((↑i:Int)+1))=sI sa (↑(i+1):Int)) (.at (af ae env 127 0 [.mp 1 0,.fn (acU 137) [] [.mp 1 0],.p (.ps l.length 8 (ak l)),sI .i64 (↑l.length:Int),sI .i64 (↑(i+1):Int)] ([.dead,.ac [.os (some 2) (k+1+1) 1 (X++[.sc (.int .u8 (acQ.wrap op))]++[.sc (.int .u8 0)])],.tok]) 1 130))))
def fk (l:List Ins) (k:Nat) (X:List PV) (i:Nat) (op r a b nn:Int) (tg:List Int) (ll:List Ins) (le:List Ins) (al:Int) (st:Bool) (J:aab) (J':aab) (Q:aac) (Q':aac) (JJ:List PV→Nat) (QQ:List PV→List PV):aA:=
 (.test (decide ((↑i:Int)<(↑l.length:Int)))
 (.must (aM (↑i:Int) l.length&&true&&true)
 (.must (isInt sa (av (ak l) (aB i*8))&&(isInt sa (av (ak l) (aB i*8+1))&&(isInt acu (av (ak l) (aB i*8+1+1))&&(isInt acu (av (ak l) (aB i*8+1+1+1))&&(isInt acR (av (ak l) (aB i*8+1+1+1+1))&&(aQ (av (ak l) (aB i*8+1+1+1+1+1))&&(aQ (av (ak l) (aB i*8+1+1+1+1+1+1))&&(aQ (av (ak l) (aB i*8+1+1+1+1+1+1+1))&&true)))))))&&true)
 (.need (AV.agg [sI .i64 (aq (av (ak l) (aB i*8))),sI .i64 (aq (av (ak l) (aB i*8+1))),sI .u32 (aq (av (ak l) (aB i*8+1+1))),sI .u32 (aq (av (ak l) (aB i*8+1+1+1))),sI .i32 (aq (av (ak l) (aB i*8+1+1+1+1))),AV.p (PV.ps (az (av (ak l) (aB i*8+1+1+1+1+1))) (aR (av (ak l) (aB i*8+1+1+1+1+1))) (an (av (ak l) (aB i*8+1+1+1+1+1)))),AV.p (PV.ps (az (av (ak l) (aB i*8+1+1+1+1+1+1))) (aR (av (ak l) (aB i*8+1+1+1+1+1+1))) (an (av (ak l) (aB i*8+1+1+1+1+1+1)))),AV.p (PV.ps (az (av (ak l) (aB i*8+1+1+1+1+1+1+1))) (aR (av (ak l) (aB i*8+1+1+1+1+1+1+1))) (an (av (ak l) (aB i*8+1+1+1+1+1+1+1))))]=CL op r a b nn tg ll le)
 (.must (((k+1)*1).ble bH&&(k+1).ble bH&&true)
 (.test (op==2)
 (.must (op==2)
 (cW l k X i op r ll le JJ QQ))
 (.test (op==3)
 (.must (op==3)
 (cW l k X i op r ll le JJ QQ))
 (.test (op==4)
 (cW l k X i op r ll le JJ QQ)
 (.test (op==12)
 (.must (op==12)
 (bX l k X i op a J Q))
 (.test (op==13)
 (.must (op==13)
 (bX l k X i op a J Q))
 (.test (op==16)
 (.must (op==16)
 (bX l k X i op a J Q))
 (.test (op==32)
 (.must (op==32)
 (bX l k X i op a J Q))
 (.test (op==33)
 (.must (op==33)
 (bX l k X i op a J Q))
 (.test (op==34)
 (.must (op==34)
 (bX l k X i op a J Q))
 (.test (op==35)
 (.must (op==35)
 (bX l k X i op a J Q))
 (.test (op==36)
 (bX l k X i op a J Q)
 (.test (op==17)
 (.call ⟨45,[sI .u32 a],[],.p (.ps (J a) 1 (Q a)),[]⟩
 (.must (((k+1+J a)*1).ble bH&&(k+1+J a).ble bH&&true&&true&&true)
 (.must true
 (.must (((k+1+J a+1)*1).ble bH&&(k+1+J a+1).ble bH&&true)
 (.need (sI .i64 (sa.wrap ((↑i:Int)+1))=sI sa (↑(i+1):Int))
 (.at (af ae env 127 0 [.mp 1 0,.fn (acU 137) [] [.mp 1 0],.p (.ps l.length 8 (ak l)),sI .i64 (↑l.length:Int),sI .i64 (↑(i+1):Int)] ([.dead,.ac [.os (some 2) (k+1+J a+1) 1 (X++[.sc (.int .u8 (acQ.wrap op))]++Q a++[.sc (.int .u8 0)])],.tok]) 1 130)))))))
 (.test (op==14)
 (.call ⟨45,[sI .u32 (acu.wrap (↑tg.length:Int))],[],.p (.ps (J (acu.wrap (↑tg.length:Int))) 1 (Q (acu.wrap (↑tg.length:Int)))),[]⟩
 (.must (((k+1+J (acu.wrap (↑tg.length:Int)))*1).ble bH&&(k+1+J (acu.wrap (↑tg.length:Int))).ble bH&&true&&true&&true)
 (.must true
 (.at (af ae env 127 17 [.mp 1 0,.fn (acU 137) [] [.mp 1 0],.mp 2 0,.p (.ps l.length 8 (ak l)),sI .i64 (↑l.length:Int),sI .i64 (↑i:Int),.p (.ps tg.length 1 (bU acu tg)),sI .i64 (↑tg.length:Int),sI .i64 0] ([.dead,.ac [.os (some 3) (k+1+J (acu.wrap (↑tg.length:Int))) 1 (X++[.sc (.int .u8 (acQ.wrap op))]++Q (acu.wrap (↑tg.length:Int)))],.ac [sI .i64 op,sI .i64 r,sI .u32 a,sI .u32 b,sI .i32 nn,.p (.ps tg.length 1 (bU acu tg)),.p (.ps ll.length 8 (ak ll)),.p (.ps le.length 8 (ak le))],.tok]) 1 130)))))
 (.test (op==63)
 (.must (op==63)
 (dB l k X i op))
 (.test (op==64)
 (dB l k X i op)
 (.test (op==65)
 (.call ⟨138,[sI .i32 nn],[],.p (.ps (J' nn) 1 (Q' nn)),[]⟩
 (.must (((k+1+J' nn)*1).ble bH&&(k+1+J' nn).ble bH&&true&&true&&true)
 (.need (sI .i64 (sa.wrap ((↑i:Int)+1))=sI sa (↑(i+1):Int))
 (.at (af ae env 127 0 [.mp 1 0,.fn (acU 137) [] [.mp 1 0],.p (.ps l.length 8 (ak l)),sI .i64 (↑l.length:Int),sI .i64 (↑(i+1):Int)] ([.dead,.ac [.os (some 2) (k+1+J' nn) 1 (X++[.sc (.int .u8 (acQ.wrap op))]++Q' nn)],.tok]) 1 130)))))
 (.call ⟨139,[sI .i64 op],[],.aK [sI .u32 al,.p (.sc (.bool st))],[]⟩
 (.test (st)
 (.call ⟨45,[sI .u32 a],[],.p (.ps (J a) 1 (Q a)),[]⟩
 (.must (((k+1+J a)*1).ble bH&&(k+1+J a).ble bH&&true&&true&&true)
 (.must true
 (.call ⟨45,[sI .u32 b],[],.p (.ps (J b) 1 (Q b)),[]⟩
 (.must (((k+1+J a+J b)*1).ble bH&&(k+1+J a+J b).ble bH&&true&&true&&true)
 (.must true
 (.need (sI .i64 (sa.wrap ((↑i:Int)+1))=sI sa (↑(i+1):Int))
 (.at (af ae env 127 0 [.mp 1 0,.fn (acU 137) [] [.mp 1 0],.p (.ps l.length 8 (ak l)),sI .i64 (↑l.length:Int),sI .i64 (↑(i+1):Int)] ([.dead,.ac [.os (some 2) (k+1+J a+J b) 1 (X++[.sc (.int .u8 (acQ.wrap op))]++Q a++Q b)],.tok]) 1 130)))))))))
 (.need (sI .i64 (sa.wrap ((↑i:Int)+1))=sI sa (↑(i+1):Int))
 (.at (af ae env 127 0 [.mp 1 0,.fn (acU 137) [] [.mp 1 0],.p (.ps l.length 8 (ak l)),sI .i64 (↑l.length:Int),sI .i64 (↑(i+1):Int)] ([.dead,.ac [.os (some 2) (k+1) 1 (X++[.sc (.int .u8 (acQ.wrap op))])],.tok]) 1 130)))))))))))))))))))))))))
 (.out (.ret (.os (some 1) k 1 X) [.dead,.tok])))
theorem CT (l:List Ins) (k:Nat) (X:List PV) (i:Nat) (op r a b nn:Int) (tg:List Int) (ll:List Ins) (le:List Ins) (al:Int) (st:Bool) (J:aab) (J':aab) (Q:aac) (Q':aac) (JJ:List PV→Nat) (QQ:List PV→List PV):grow ae env (Ta l k X i op r a b nn tg ll le al st J J' Q Q' JJ QQ) 1000000 true (af ae env 127 0 ([AV.mp 1 0,AV.fn (acU 137) [] [AV.mp 1 0],aL l,sI sa (↑l.length:Int),sI sa (↑i:Int)]) ([aN.dead,aN.ac [AV.os (Option.some 2) k 1 X],aN.tok]) 1 130) XQ atEnd=fk l k X i op r a b nn tg ll le al st J J' Q Q' JJ QQ:=by kernel_rfl
def Tb (l:List Ins) (k:Nat) (X:List PV) (i:Nat) (j:Nat) (op r a b nn:Int) (tg:List Int) (ll:List Ins) (le:List Ins) (t:Int) (J:aab) (Q:aac):bN:=gI aF (abd l k X i j op r a b nn tg ll le t J Q) [(127,0),(127,17)] [(127,0,18)] [(127,38,0),(127,38,1),(137,0,0)] (abc l k X i j op r a b nn tg ll le t J Q)
def XR:Sc:= .fin
def A5 (l:List Ins) (k:Nat) (X:List PV) (i:Nat) (j:Nat) (op r a b nn:Int) (tg:List Int) (ll:List Ins) (le:List Ins) (t:Int) (J:aab) (Q:aac):aA:=
 (.test (decide ((↑j:Int)<(↑tg.length:Int)))
 (.must (aM (↑j:Int) tg.length&&true&&true)
 (.must (isInt acu (av (bU acu tg) (aB j*1))&&true)
 (.need (sI .u32 (aq (av (bU acu tg) (aB j*1)))=sI acu t)
 (.call ⟨45,[sI .u32 t],[],.p (.ps (J t) 1 (Q t)),[]⟩
 (.must (((k+J t)*1).ble bH&&(k+J t).ble bH&&true&&true&&true)
 (.must true
 (.need (sI .i64 (sa.wrap ((↑j:Int)+1))=sI sa (↑(j+1):Int))
 (.at (af ae env 127 17 [.mp 1 0,.fn (acU 137) [] [.mp 1 0],.mp 2 0,.p (.ps l.length 8 (ak l)),sI .i64 (↑l.length:Int),sI .i64 (↑i:Int),.p (.ps tg.length 1 (bU acu tg)),sI .i64 (↑tg.length:Int),sI .i64 (↑(j+1):Int)] ([.dead,.ac [.os (some 3) (k+J t) 1 (X++Q t)],.ac [sI .i64 op,sI .i64 r,sI .u32 a,sI .u32 b,sI .i32 nn,.p (.ps tg.length 1 (bU acu tg)),.p (.ps ll.length 8 (ak ll)),.p (.ps le.length 8 (ak le))],.tok]) 1 130)))))))))
 (.call ⟨45,[sI .u32 a],[],.p (.ps (J a) 1 (Q a)),[]⟩
 (.must (((k+J a)*1).ble bH&&(k+J a).ble bH&&true&&true&&true)
 (.must true
 (.need (sI .i64 (sa.wrap ((↑i:Int)+1))=sI sa (↑(i+1):Int))
 (.at (af ae env 127 0 [.mp 1 0,.fn (acU 137) [] [.mp 1 0],.p (.ps l.length 8 (ak l)),sI .i64 (↑l.length:Int),sI .i64 (↑(i+1):Int)] ([.dead,.ac [.os (some 2) (k+J a) 1 (X++Q a)],.tok]) 1 130)))))))
theorem CU (l:List Ins) (k:Nat) (X:List PV) (i:Nat) (j:Nat) (op r a b nn:Int) (tg:List Int) (ll:List Ins) (le:List Ins) (t:Int) (J:aab) (Q:aac):grow ae env (Tb l k X i j op r a b nn tg ll le t J Q) 1000000 true (af ae env 127 17 ([AV.mp 1 0,AV.fn (acU 137) [] [AV.mp 1 0],AV.mp 2 0,aL l,sI sa (↑l.length:Int),sI sa (↑i:Int),AV.p (PV.ps tg.length 1 (bU acu tg)),sI sa (↑tg.length:Int),sI sa (↑j:Int)]) ([aN.dead,aN.ac [AV.os (Option.some 3) k 1 X],aN.ac [sI sa op,sI sa r,sI acu a,sI acu b,sI acR nn,AV.p (PV.ps tg.length 1 (bU acu tg)),aL ll,aL le],aN.tok]) 1 130) XR atEnd=A5 l k X i j op r a b nn tg ll le t J Q:=by kernel_rfl
def A6 (l:List Ins):Prop:= ∀X:List PV,X.length+20*cZ l≤1000000000→au ae env 127 [.os (some 0) X.length 1 X,aL l] [.tok] (.os (some 1) (X.length+jL (ak l)) 1 (X++qL (ak l))) [.dead,.tok]
theorem A6.to {l:List Ins} (h:A6 l) {n:Nat} {X:List PV} (hn:n=X.length) (hX:X.length+20*cZ l≤1000000000):au ae env 127 [.os (some 0) n 1 X,aL l] [.tok] (.os (some 1) (n+jL (ak l)) 1 (X++qL (ak l))) [.dead,.tok]:=by subst hn;exact h X hX
noncomputable abbrev Ic (l:List Ins) (X:List PV) (i n:Nat):cg:=af ae env 127 0 [.mp 1 0,.fn (.func 137) [] [.mp 1 0],aL l,sI .i64 l.length,sI .i64 i] [.dead,.ac [.os (some 2) n 1 X],.tok] 1 130
theorem rT {l:List Ins} {X Y:List PV} {i n:Nat} {o:Out} (h:X=Y) (hn:n=Y.length) (k:bD ae env (Ic l Y i Y.length) o):bD ae env (Ic l X i n) o:=by subst h;subst hn;exact k
theorem OX {l:List Ins} {i:Nat} {op r a b nn:Int} {tg:List Int} {ll le:List Ins} {o:Out} (hi:i<1000000000) (ha:0≤a∧a<4294967296) (ht : ∀t∈tg,0≤t∧t<4294967296) (hl:tg.length≤1000000) : ∀(n j:Nat) (X:List PV),j+n=tg.length→X.length+5*n≤1000000000 →
  bD ae env (Ic l (X++(bt ((tg.drop j).flatMap fun t=>pU 4 t.toNat)++qU a)) (i+1) (X++(bt ((tg.drop j).flatMap fun t=>pU 4 t.toNat)++qU a)).length) o →
  bD ae env (af ae env 127 17 [.mp 1 0,.fn (.func 137) [] [.mp 1 0],.mp 2 0,aL l,sI .i64 l.length,sI .i64 i,.p (.ps tg.length 1 (bU .u32 tg)),sI .i64 tg.length,sI .i64 j] [.dead,.ac [.os (some 3) X.length 1 X],.ac [sI .i64 op,sI .i64 r,sI .u32 a,sI .u32 b,sI .i32 nn,.p (.ps tg.length 1 (bU .u32 tg)),aL ll,aL le],.tok] 1 130) o:=by
 have ct:bH=70368744177664:=rfl
 have hja:=CS a
 have hqa:(qU a).length=jU a:=bz _
 have wi:sa.wrap ((i:Int)+1)=((i+1:Nat):Int):=by rw[bA (by omega) (by omega)];rfl
 intro n
 induction n with
 |zero=>
  intro j X hj hX hg
  have hd:decide ((j:Int)<(tg.length:Int))=false:=decide_eq_false (by omega)
  refine ah aI (CU l X.length X i j op r a b nn tg ll le 0 jU qU) ?_
  simp only[A5,bu,aA.ok,hd,ct,acO,dp,and_true,pn,false_implies,true_implies,true_and,wi]
  refine⟨gE ha,⟨by omega,by omega⟩,rT ?_ ?_ hg⟩
  · rw[ac1 (by omega)];simp[bt]
  · rw[ac1 (by omega)];simp[bt,hqa]
 |succ n ih=>
  intro j X hj hX hg
  have hjl:j<tg.length:=by omega
  have hd:decide ((j:Int)<(tg.length:Int))=true:=decide_eq_true (by omega)
  have EB:=CS tg[j]
  have hqt:(qU tg[j]).length=jU tg[j]:=bz _
  have w:sa.wrap ((j:Int)+1)=((j+1:Nat):Int):=by rw[bA (by omega) (by omega)];rfl
  have e:(X++qU tg[j])++(bt ((tg.drop (j+1)).flatMap fun t=>pU 4 t.toNat)++qU a)=X++(bt ((tg.drop j).flatMap fun t=>pU 4 t.toNat)++qU a):=by
   rw[ac3 hjl,ac2,bn]
   simp[qU]
  have k:=ih (j+1) (X++qU tg[j]) (by omega) (by rw[dT];omega) (by rw[e];exact hg)
  have hin:aM (j:Int) tg.length=true:=by simp only[aM,dp,decide_eq_true_eq];omega
  refine ah aI (CU l X.length X i j op r a b nn tg ll le tg[j] jU qU) ?_
  simp only[A5,bu,aA.ok,hd,ct,acO,dp,and_true,true_and,acS,false_implies,true_implies,hin,acN,Gw hjl,isInt,aq,w,beq_self_eq_true]
  refine⟨gE (ht _ (fg hjl)),⟨by omega,by omega⟩,?_⟩
  rw[dT,hqt] at k
  exact k
theorem Ln {op:Int} (h:jT op=true) (vY : ¬op=17):op=12∨op=13∨op=16∨op=32∨op=33∨op=34∨op=35∨op=36:=by
 have:=qu.1 h
 omega
set_option maxHeartbeats 8000000 in
theorem Lo {l:List Ins} {i:Nat} {op r a b nn:Int} {tg:List Int} {ll le:List Ins} {X:List PV} {o:Out} (hg:l[i]? = some (.mk op r a b nn tg ll le)) (hi:i<1000000000)
  (hw:JE (.mk op r a b nn tg ll le)) (hX:X.length+20*kD (.mk op r a b nn tg ll le)≤1000000000) (hc:kD (.mk op r a b nn tg ll le)≤1000000) (h1:A6 ll) (h2:A6 le)
  (k:bD ae env (Ic l (X++bt (lW (.mk op r a b nn tg ll le))) (i+1) (X++bt (lW (.mk op r a b nn tg ll le))).length) o):bD ae env (Ic l X i X.length) o:=by
 have ct:bH=70368744177664:=rfl
 have uF:i<l.length:=(List.getElem?_eq_some_iff.1 hg).1
 obtain⟨-,-,wa,wb,wn,⟨wt,XS⟩,-,-,-⟩:=hw
 have wa:=kF wa
 have wb:=kF wb
 have wn:=Fb wn
 have XS : ∀t∈tg,0≤t∧t<4294967296:=fun t ht=>kF (XS t ht)
 simp only[kD] at hc hX
 have k1:jL (ak ll)≤20*cZ ll:=by rw[oD];exact lX ll
 have k2:jL (ak le)≤20*cZ le:=by rw[oD];exact lX le
 have k3:=CS a
 have k4:=CS b
 have k5:=XO nn
 have k6:=CS tg.length
 have q1:(qL (ak ll)).length=jL (ak ll):=by rw[sZ,oD,bz]
 have q2:(qL (ak le)).length=jL (ak le):=by rw[sZ,oD,bz]
 have q3:(qU a).length=jU a:=bz _
 have q4:(qU b).length=jU b:=bz _
 have q5:(qS nn).length=jS nn:=bz _
 have q6:(qU tg.length).length=jU tg.length:=bz _
 have hu:acu.wrap (tg.length:Int)=tg.length:=Gi (by omega) (by omega)
 have hd:decide ((i:Int)<(l.length:Int))=true:=decide_eq_true (by omega)
 have hin:aM (i:Int) l.length=true:=by simp only[aM,dp,decide_eq_true_eq];omega
 have w:sa.wrap ((i:Int)+1)=((i+1:Nat):Int):=by rw[bA (by omega) (by omega)];rfl
 obtain⟨c0,c1,c2,c3,c4,c5,c6,c7⟩:=qp hg
 have c2:(ak l).getD (i*8+1+1) .bk = .sc (.int .u32 a):=c2
 have c3:(ak l).getD (i*8+1+1+1) .bk = .sc (.int .u32 b):=c3
 have c4:(ak l).getD (i*8+1+1+1+1) .bk = .sc (.int .i32 nn):=c4
 have c5:(ak l).getD (i*8+1+1+1+1+1) .bk = .ps tg.length 1 (bU .u32 tg):=c5
 have c6:(ak l).getD (i*8+1+1+1+1+1+1) .bk = .ps ll.length 8 (ak ll):=c6
 have c7:(ak l).getD (i*8+1+1+1+1+1+1+1) .bk = .ps le.length 8 (ak le):=c7
 have cb:PV.sc (.int .u8 (acQ.wrap op)) = .sc (.int .u8 ((op%256).toNat:Int)):=by rw[eH]
 have a1:=vU op
 have hk:X.length+5≤1000000000:=by omega
 refine ah aI (CT l X.length X i op r a b nn tg ll le (A3 op) (eX op) jU jS qU qS jL qL) ?_
 cases lz:kX op with
 |true=>
  by_cases hr:r=1
  · by_cases hle:le.length=0
    · have he:decide ((le.length:Int)>0)=false:=decide_eq_false (by omega)
      have dr:(r==1)=true:=by rw[hr];rfl
      rcases fX.1 lz with rfl | rfl | rfl
      all_goals
       simp only[fk,cW,bX,dB,bu,aA.ok,hd,ct,acO,dp,and_true,true_and,acS,pn,false_implies,true_implies,hin,acN,c0,c1,c2,c3,c4,c5,c6,c7,isInt,aQ,aq,az,aR,an,w,beq_self_eq_true,cb,hu,ac4,he,dr]
       exact⟨rfl,⟨by omega,by omega⟩,h1.to (by simp only[dT,od,acA]) (by simp only[dT,od,acA];omega),⟨by omega,by omega⟩,⟨by omega,by omega⟩,rT (by simp[lW,lz,hle,hr,bt,sZ]) (by simp[lW,lz,hle,hr,bt,oD];omega) k⟩
    · have he:decide ((le.length:Int)>0)=true:=decide_eq_true (by omega)
      have dr:(r==1)=true:=by rw[hr];rfl
      rcases fX.1 lz with rfl | rfl | rfl
      all_goals
       simp only[fk,cW,bX,dB,bu,aA.ok,hd,ct,acO,dp,and_true,true_and,acS,pn,false_implies,true_implies,hin,acN,c0,c1,c2,c3,c4,c5,c6,c7,isInt,aQ,aq,az,aR,an,w,beq_self_eq_true,cb,hu,ac4,he,dr]
       exact⟨rfl,⟨by omega,by omega⟩,h1.to (by simp only[dT,od,acA]) (by simp only[dT,od,acA];omega),⟨by omega,by omega⟩,h2.to (by simp only[dT,od,acA,q1]) (by simp only[dT,od,acA,q1];omega),⟨by omega,by omega⟩,⟨by omega,by omega⟩,rT (by simp[lW,lz,hle,hr,bt,sZ]) (by simp[lW,lz,hle,hr,bt,oD];omega) k⟩
  · have dr:(r==1)=false:=by simpa using hr
    by_cases hle:le.length=0
    · have he:decide ((le.length:Int)>0)=false:=decide_eq_false (by omega)
      rcases fX.1 lz with rfl | rfl | rfl
      all_goals
       simp only[fk,cW,bX,dB,bu,aA.ok,hd,ct,acO,dp,and_true,true_and,acS,pn,false_implies,true_implies,hin,acN,c0,c1,c2,c3,c4,c5,c6,c7,isInt,aQ,aq,az,aR,an,w,beq_self_eq_true,cb,hu,ac4,he,dr]
       exact⟨rfl,⟨by omega,by omega⟩,h1.to (by simp only[dT,od,acA]) (by simp only[dT,od,acA];omega),⟨by omega,by omega⟩,⟨by omega,by omega⟩,rT (by simp[lW,lz,hle,hr,bt,sZ]) (by simp[lW,lz,hle,hr,bt,oD];omega) k⟩
    · have he:decide ((le.length:Int)>0)=true:=decide_eq_true (by omega)
      rcases fX.1 lz with rfl | rfl | rfl
      all_goals
       simp only[fk,cW,bX,dB,bu,aA.ok,hd,ct,acO,dp,and_true,true_and,acS,pn,false_implies,true_implies,hin,acN,c0,c1,c2,c3,c4,c5,c6,c7,isInt,aQ,aq,az,aR,an,w,beq_self_eq_true,cb,hu,ac4,he,dr]
       exact⟨rfl,⟨by omega,by omega⟩,h1.to (by simp only[dT,od,acA]) (by simp only[dT,od,acA];omega),⟨by omega,by omega⟩,h2.to (by simp only[dT,od,acA,q1]) (by simp only[dT,od,acA,q1];omega),⟨by omega,by omega⟩,⟨by omega,by omega⟩,rT (by simp[lW,lz,hle,hr,bt,sZ]) (by simp[lW,lz,hle,hr,bt,oD];omega) k⟩
 |false=>
  have n2:(op==2)=false:=by cases h:op==2 with | false=>rfl | true=>rw[fX.2 (.inl (eq_of_beq h))] at lz;cases lz
  have n3:(op==3)=false:=by cases h:op==3 with | false=>rfl | true=>rw[fX.2 (.inr (.inl (eq_of_beq h)))] at lz;cases lz
  have n4:(op==4)=false:=by cases h:op==4 with | false=>rfl | true=>rw[fX.2 (.inr (.inr (eq_of_beq h)))] at lz;cases lz
  by_cases vY:op=17
  · have RB:(op==17)=true:=by rw[vY];rfl
    have B1:(X.length+1)*1≤70368744177664∧X.length+1≤70368744177664:=⟨by omega,by omega⟩
    simp only[fk,cW,bX,dB,bu,aA.ok,hd,ct,acO,dp,and_true,true_and,acS,pn,false_implies,true_implies,hin,acN,c0,c1,c2,c3,c4,c5,c6,c7,isInt,aQ,aq,az,aR,an,w,beq_self_eq_true,cb,hu,ac4,n2,n3,n4,show(op==12)=false from by rw[vY];rfl,show(op==13)=false from by rw[vY];rfl,show(op==16)=false from by rw[vY];rfl,show(op==32)=false from by rw[vY];rfl,show(op==33)=false from by rw[vY];rfl,show(op==34)=false from by rw[vY];rfl,show(op==35)=false from by rw[vY];rfl,show(op==36)=false from by rw[vY];rfl,RB]
    exact⟨rfl,B1,gE wa,⟨by omega,by omega⟩,⟨by omega,by omega⟩,rT (by simp[lW,show kX 17=false from rfl,show eX 17=false from rfl,vY,bt,qU]) (by simp[lW,show kX 17=false from rfl,show eX 17=false from rfl,vY,bt,jU];omega) k⟩
  · have RB:(op==17)=false:=by simpa using vY
    cases xZ:jT op with
    |true=>
     have hop:=Ln xZ vY
     have fin:=rT (i:=i+1) (n:=X.length+1+jU a) (X:=X++[.sc (.int .u8 ((op%256).toNat:Int))]++qU a) (by simp[lW,lz,vY,xZ,bt,qU]) (by simp[lW,lz,vY,xZ,bt,jU];omega) k
     have B:(X.length+1+jU a)*1≤70368744177664∧X.length+1+jU a≤70368744177664:=⟨by omega,by omega⟩
     have B1:(X.length+1)*1≤70368744177664∧X.length+1≤70368744177664:=⟨by omega,by omega⟩
     clear k cb
     rcases hop with rfl | rfl | rfl | rfl | rfl | rfl | rfl | rfl
     all_goals
      simp only[fk,cW,bX,dB,bu,aA.ok,hd,ct,acO,dp,and_true,true_and,acS,pn,false_implies,true_implies,hin,acN,c0,c1,c2,c3,c4,c5,c6,c7,isInt,aQ,aq,az,aR,an,w,beq_self_eq_true,eH,hu,ac4]
      exact⟨rfl,B1,gE wa,B,fin⟩
    |false=>
     have m : ∀c:Int,jT c=true→(op==c)=false:=fun c hc=>by cases h:op==c with | false=>rfl | true=>rw[eq_of_beq h,hc] at xZ;cases xZ
     have B1:(X.length+1)*1≤70368744177664∧X.length+1≤70368744177664:=⟨by omega,by omega⟩
     by_cases A7:op=14
     · have Tc:(op==14)=true:=by rw[A7];rfl
       simp only[fk,cW,bX,dB,bu,aA.ok,hd,ct,acO,dp,and_true,true_and,acS,pn,false_implies,true_implies,hin,acN,c0,c1,c2,c3,c4,c5,c6,c7,isInt,aQ,aq,az,aR,an,w,beq_self_eq_true,cb,hu,ac4,n2,n3,n4,m 12 rfl,m 13 rfl,m 16 rfl,m 32 rfl,m 33 rfl,m 34 rfl,m 35 rfl,m 36 rfl,RB,Tc]
       refine⟨rfl,B1,gE ⟨by omega,by omega⟩,⟨by omega,by omega⟩,?_⟩
       have k2:=OX (l:=l) (i:=i) (op:=op) (r:=r) (b:=b) (nn:=nn) (ll:=ll) (le:=le) (o:=o) hi wa XS (by omega) tg.length 0 (X++[.sc (.int .u8 ((op%256).toNat:Int))]++qU tg.length) (by omega) (by simp only[dT,od,acA,q6];omega)
        (rT (by simp[lW,show kX 14=false from rfl,show jT 14=false from rfl,show eX 14=false from rfl,A7,bt,qU]) (by simp[lW,show kX 14=false from rfl,show jT 14=false from rfl,show eX 14=false from rfl,A7,bt,qU]) k)
       simp only[dT,od,acA,q6] at k2
       exact k2
     · have Tc:(op==14)=false:=by simpa using A7
       by_cases h63:op=63
       · have Wx:(op==63)=true:=by rw[h63];rfl
         simp only[fk,cW,bX,dB,bu,aA.ok,hd,ct,acO,dp,and_true,true_and,acS,pn,false_implies,true_implies,hin,acN,c0,c1,c2,c3,c4,c5,c6,c7,isInt,aQ,aq,az,aR,an,w,beq_self_eq_true,cb,hu,ac4,n2,n3,n4,m 12 rfl,m 13 rfl,m 16 rfl,m 32 rfl,m 33 rfl,m 34 rfl,m 35 rfl,m 36 rfl,RB,Tc,Wx]
         exact⟨rfl,B1,⟨by omega,by omega⟩,rT (by simp[lW,show kX 63=false from rfl,show jT 63=false from rfl,show eX 63=false from rfl,h63,bt]) (by simp[lW,show kX 63=false from rfl,show jT 63=false from rfl,show eX 63=false from rfl,h63,bt]) k⟩
       · have Wx:(op==63)=false:=by simpa using h63
         by_cases RC:op=64
         · have XT:(op==64)=true:=by rw[RC];rfl
           simp only[fk,cW,bX,dB,bu,aA.ok,hd,ct,acO,dp,and_true,true_and,acS,pn,false_implies,true_implies,hin,acN,c0,c1,c2,c3,c4,c5,c6,c7,isInt,aQ,aq,az,aR,an,w,beq_self_eq_true,cb,hu,ac4,n2,n3,n4,m 12 rfl,m 13 rfl,m 16 rfl,m 32 rfl,m 33 rfl,m 34 rfl,m 35 rfl,m 36 rfl,RB,Tc,Wx,XT]
           exact⟨rfl,B1,⟨by omega,by omega⟩,rT (by simp[lW,show kX 64=false from rfl,show jT 64=false from rfl,show eX 64=false from rfl,RC,bt]) (by simp[lW,show kX 64=false from rfl,show jT 64=false from rfl,show eX 64=false from rfl,RC,bt]) k⟩
         · have XT:(op==64)=false:=by simpa using RC
           by_cases Ie:op=65
           · have ZW:(op==65)=true:=by rw[Ie];rfl
             simp only[fk,cW,bX,dB,bu,aA.ok,hd,ct,acO,dp,and_true,true_and,acS,pn,false_implies,true_implies,hin,acN,c0,c1,c2,c3,c4,c5,c6,c7,isInt,aQ,aq,az,aR,an,w,beq_self_eq_true,cb,hu,ac4,n2,n3,n4,m 12 rfl,m 13 rfl,m 16 rfl,m 32 rfl,m 33 rfl,m 34 rfl,m 35 rfl,m 36 rfl,RB,Tc,Wx,XT,ZW]
             exact⟨rfl,B1,Ib wn,⟨by omega,by omega⟩,rT (by simp[lW,show kX 65=false from rfl,show jT 65=false from rfl,show eX 65=false from rfl,Ie,bt,qS]) (by simp[lW,show kX 65=false from rfl,show jT 65=false from rfl,show eX 65=false from rfl,Ie,bt,jS];omega) k⟩
           · have ZW:(op==65)=false:=by simpa using Ie
             cases hst:eX op with
             |true=>
              rw[hst] at a1
              simp only[fk,cW,bX,dB,bu,aA.ok,hd,ct,acO,dp,and_true,true_and,acS,pn,false_implies,true_implies,hin,acN,c0,c1,c2,c3,c4,c5,c6,c7,isInt,aQ,aq,az,aR,an,w,beq_self_eq_true,cb,hu,ac4,n2,n3,n4,m 12 rfl,m 13 rfl,m 16 rfl,m 32 rfl,m 33 rfl,m 34 rfl,m 35 rfl,m 36 rfl,RB,Tc,Wx,XT,ZW]
              exact⟨rfl,B1,a1,gE wa,⟨by omega,by omega⟩,gE wb,⟨by omega,by omega⟩,rT (by simp[lW,lz,vY,xZ,A7,h63,RC,Ie,hst,bt,qU]) (by simp[lW,lz,vY,xZ,A7,h63,RC,Ie,hst,bt,jU];omega) k⟩
             |false=>
              rw[hst] at a1
              simp only[fk,cW,bX,dB,bu,aA.ok,hd,ct,acO,dp,and_true,true_and,acS,pn,false_implies,true_implies,hin,acN,c0,c1,c2,c3,c4,c5,c6,c7,isInt,aQ,aq,az,aR,an,w,beq_self_eq_true,cb,hu,ac4,n2,n3,n4,m 12 rfl,m 13 rfl,m 16 rfl,m 32 rfl,m 33 rfl,m 34 rfl,m 35 rfl,m 36 rfl,RB,Tc,Wx,XT,ZW]
              exact⟨rfl,B1,a1,rT (by simp[lW,lz,vY,xZ,A7,h63,RC,Ie,hst,bt]) (by simp[lW,lz,vY,xZ,A7,h63,RC,Ie,hst,bt]) k⟩
theorem Lp {l:List Ins} (hw:sV l) (hc:cZ l≤1000000) (IH : ∀x∈l,A6 x.l∧A6 x.e) : ∀(n i:Nat) (X:List PV),i+n=l.length→X.length+20*cZ (l.drop i)≤1000000000 →
  bD ae env (Ic l X i X.length) (.ret (.os (some 1) (X++bt (kJ (l.drop i))).length 1 (X++bt (kJ (l.drop i)))) [.dead,.tok]):=by
 have RS:=nr l
 intro n
 induction n with
 |zero=>
  intro i X hi hX
  have hd:decide ((i:Int)<(l.length:Int))=false:=decide_eq_false (by omega)
  refine ah aI (CT l X.length X i 0 0 0 0 0 [] [] [] 0 false jU jS qU qS jL qL) ?_
  simp only[fk,cW,bX,dB,bu,aA.ok,hd,and_true,pn,false_implies,true_implies,true_and]
  rw[ac1 (by omega)]
  exact abb (by simp[kJ,bt]) (by simp[kJ,bt]) rfl
 |succ n ih=>
  intro i X hi hX
  have uF:i<l.length:=by omega
  have hmem:l[i]∈l:=fg uF
  have hcx:=kV hmem
  have hb:=Gv l[i]
  have hcd:cZ (l.drop i)=kD l[i]+cZ (l.drop (i+1)):=by rw[ac3 uF,cZ]
  have k:=ih (i+1) (X++bt (lW l[i])) (by omega) (by rw[dT,bz];omega)
  rw[show(X++bt (lW l[i]))++bt (kJ (l.drop (i+1)))=X++bt (kJ (l.drop i)) by rw[Ll uF,bn,List.append_assoc]] at k
  have Xz:l[i]? = some l[i]:=List.getElem?_eq_getElem uF
  have Td:=nU hw hmem
  have Wy:=IH l[i] hmem
  generalize l[i]=x at *
  obtain⟨op,r,a,b,nn,tg,ll,le⟩:=x
  exact Lo Xz (by omega) Td (by omega) (by omega) Wy.1 Wy.2 k
theorem Lq : ∀l:List Ins,sV l→cZ l≤1000000→A6 l:=by
 refine OP fun l IH hw hc X hX=> ?_
 have IH' : ∀x∈l,A6 x.l∧A6 x.e:=fun x hx=>by
  have h2:=nU hw hx
  have h3:=kV hx
  have h4:=IH x hx
  obtain⟨op,r,a,b,nn,tg,ll,le⟩:=x
  simp only[Ins.l,Ins.e,kD,JE] at h2 h3 h4 ⊢
  exact⟨h4.1 h2.2.2.2.2.2.2.1.2 (by omega),h4.2 h2.2.2.2.2.2.2.2.2 (by omega)⟩
 have k:=Lp hw hc IH' l.length 0 X (by omega) (by rw[acw];exact hX)
 rw[acw,dT,bz] at k
 rw[oD,sZ]
 refine aa aI (OW l X.length X) ?_
 simp only[Lm,aA.ok]
 exact bD.Ld (len:=X.length) (sz:=1) (X:=X) (r:=[]) (by kernel_rfl) (by kernel_rfl) (bD.XH (by kernel_rfl) k)
theorem OY {l:List Ins} (hw:sV l) (hc:cZ l≤1000000):au ae env 127 [.os none 0 0 [],aL l] [] (.os (some 1) (kJ l).length 1 (bt (kJ l))) [.dead,.tok]:=by
 have h:=Lq l hw hc [] (by simp only[acA];omega)
 rw[oD,sZ,acA,pD,List.nil_append] at h
 exact au.pe (dd 1) h
end Go.Proofs.YtncncijedmfpjaaGreatDoor.N
end
section
set_option linter.unusedSimpArgs false
set_option linter.unusedVariables false
namespace Go.Proofs.YtncncijedmfpjaaGreatDoor.N
open Go Go.Am
def pbC (l:List Ins) (e:Int) (n:Nat) (X:List PV) (f:FuncId) (_:List AV) (m:Mem):Option (AV×Mem):=cond (bj f 109||bj f 122) (some (sI .i64 e,m)) (cond (bj f 127) (some (.os (some 1) n 1 X,[.dead,.tok])) (cond (bj f 123) (some (.os (some 0) n 1 X,[.tok])) none))
def pcC (lo:Int) (l:List Ins) (e:Int) (n k:Nat) (X Y:List PV) (f:FuncId) (_:List AV) (m:Mem):Option (AV×Mem):=cond (bj f 119||bj f 106) (some (.aK [.p (.ps n 1 X),sI .i64 e],m)) (cond (bj f 45||bj f 52) (some (.p (.ps k 1 Y),m)) none)
def XU (l:List Ins) (e:Int) (n:Nat) (X:List PV):bN:=aP (pbC l e n X) aC [] [(119,0,0)] [(119,5,3)]
def abf:Sc:= .fin
def Fc (l:List Ins) (e:Int) (n:Nat) (X:List PV):aA:=
 (.call ⟨109,[.p (.ps l.length 8 (ak l))],[],sI .i64 e,[]⟩
 (.test (e != 0)
 (.out (.ret (.aK [fE,sI .i64 e]) []))
 (.call ⟨127,[fE,.p (.ps l.length 8 (ak l))],[],.os (some 1) n 1 X,[.dead,.tok]⟩
 (.must (((n+1)*1).ble bH&&(n+1).ble bH&&true)
 (.out (.ret (.aK [.os (some 0) (n+1) 1 (X++[.sc (.int .u8 11)]),sI .i64 0]) [.tok]))))))
theorem Gx (l:List Ins) (e:Int) (n:Nat) (X:List PV):aG ae env (XU l e n X) 1000000 119 ([aL l]) ([]) abf=Fc l e n X:=by kernel_rfl
def XV (lo:Int) (l:List Ins) (e:Int) (n:Nat) (k:Nat) (X:List PV) (Y:List PV):bN:=aP (pcC lo l e n k X Y) (pcC lo l e n k X Y) [] [(95,2,4),(95,0,0),(95,0,1),(95,0,2)] [(95,9,5),(95,9,7),(95,10,2)]
def abg:Sc:=(.fork (.lit .fin) .fin)
def rU (lo:Int) (l:List Ins) (e:Int) (n:Nat) (k:Nat) (X:List PV) (Y:List PV):aA:=
 (.test (decide (lo<0))
 (.out (.ret (.aK [fE,sI .i64 2]) []))
 (.test (decide (lo>50000))
 (.out (.ret (.aK [fE,sI .i64 2]) []))
 (.call ⟨119,[.p (.ps l.length 8 (ak l))],[],.aK [.p (.ps n 1 X),sI .i64 e],[]⟩
 (.test (e != 0)
 (.out (.ret (.aK [fE,sI .i64 e]) []))
 (.test (decide (lo>0))
 (.call ⟨45,[sI .u32 (acu.wrap lo)],[],.p (.ps k 1 Y),[]⟩
 (.must (((1+k)*1).ble bH&&(1+k).ble bH&&true)
 (.must (((1+k+1)*1).ble bH&&(1+k+1).ble bH&&true)
 (.must (((1+k+1+n)*1).ble bH&&(1+k+1+n).ble bH&&true)
 (.out (.ret (.aK [.os (some 0) (1+k+1+n) 1 (.sc (.int .u8 1)::(([].append Y).append [.sc (.int .u8 127)]).append X),sI .i64 0]) [.tok]))))))
 (.must (((1+n)*1).ble bH&&(1+n).ble bH&&true)
 (.out (.ret (.aK [.os (some 0) (1+n) 1 (.sc (.int .u8 0)::[].append X),sI .i64 0]) [.tok]))))))))
theorem OZ (lo:Int) (l:List Ins) (e:Int) (n:Nat) (k:Nat) (X:List PV) (Y:List PV):aG ae env (XV lo l e n k X Y) 1000000 95 ([AV.agg [sI sa lo,aL l]]) ([]) abg=rU lo l e n k X Y:=by kernel_rfl
theorem au.vZ {f:FuncId} {args:List AV} {tok:Option Nat} {n sz:Nat} {X:List PV} {u:PV} {m':Mem} (h:au ae env f args [] (.aK [.os tok n sz X,.p u]) m'):au ae env f args [] (.aK [.p (.ps n sz X),.p u]) []:=
 au.weak h fun g w cv hv=>by
  have mono : ∀{v:PV} {c:Value},VP g w v c→VP {g with bL:=fun _=>none} w v c:=fun k=>VP.mono (g:=g) (g':={g with bL:=fun _=>none}) (w:=w) (w':=w) (fun _ _ q=>⟨q,rfl⟩) k
  cases hv with
  |aK _ cs hl hc=>
   obtain⟨cs⟩:=cs
   match cs,bI.dz hl hc with
   |[a,b],⟨h1,h2,_⟩=>
    refine VA.mA.2 ⟨?_,?_,trivial⟩
    · cases h1 with
      |os _ _ _ _ a cap h _=>exact .p _ _ (mono h)
    · cases h2 with
      |p _ _ h=>exact .p _ _ (mono h)
theorem au.we {f:FuncId} {args:List AV} {u:PV} {m':Mem} (h:au ae env f args [] (.aK [.os none 0 0 [],.p u]) m'):au ae env f args [] (.aK [.p (.ps 0 1 []),.p u]) []:=
 au.weak h fun g w cv hv=>by
  have mono : ∀{v:PV} {c:Value},VP g w v c→VP {g with bL:=fun _=>none} w v c:=fun k=>VP.mono (g:=g) (g':={g with bL:=fun _=>none}) (w:=w) (w':=w) (fun _ _ q=>⟨q,rfl⟩) k
  cases hv with
  |aK _ cs hl hc=>
   obtain⟨cs⟩:=cs
   match cs,bI.dz hl hc with
   |[a,b],⟨h1,h2,_⟩=>
    refine VA.mA.2 ⟨?_,?_,trivial⟩
    · cases h1 with
      |os _ _ _ _ a cap h _=>
       cases h with
       |oK _ _ _ hz=>exact .p _ _ (.oK _ _ _ (.inl (dd 1)))
       |ps _ _ _ b o cap f hl hc hz hp hv=>exact .p _ _ (.ps _ _ _ b o cap f (by simp) (Nat.zero_le _) (dd 1) (fun k hk=>absurd hk (by simp)) (fun k hk=>absurd hk (by simp)))
    · cases h2 with
      |p _ _ h=>exact .p _ _ (mono h)
def pz (l:List Ins):List Nat:=if dg gw l=0 then kJ l++[11] else[]
def NV (lo:Int) (l:List Ins):Int:=if lo<0∨lo>50000 then 2 else dg gw l
def wg (lo:Int) (l:List Ins):List Nat:=if NV lo l=0 then(if lo=0 then[0] else(1::pU 4 lo.toNat)++[127])++pz l else[]
theorem Te {t:Option Nat} {n m:Nat} {X Y:List PV} {u:AV} {mm:Mem} (h:X=Y) (h':n=Y.length) (e:m=Y.length):Out.ret (.aK [.os t n 1 X,u]) mm = .ret (.aK [.os t m 1 Y,u]) mm:=by subst h;rw[h',e]
theorem rV {l:List Ins} (hc:cZ l≤1000000):(pz l).length≤20000001:=by
 have:=lX l
 unfold pz
 split
 · simp;omega
 · simp
theorem ue {l:List Ins} (hw:sV l) (hc:cZ l≤1000000):au ae env 119 [aL l] [] (.aK [.p (.ps (pz l).length 1 (bt (pz l))),sI .i64 (dg gw l)]) []:=by
 have ct:bH=70368744177664:=rfl
 have h20:=lX l
 have hn:=nv l
 have h1:=vT zp l (by omega)
 by_cases he:dg gw l=0
 · have e1:pz l=kJ l++[11]:=if_pos he
   rw[e1,he]
   rw[he] at h1
   refine au.vZ (tok:=some 0) (m':=[.tok]) (aa aI (Gx l 0 (kJ l).length (bt (kJ l))) ?_)
   simp only[Fc,bu,aA.ok,ct,acO,dp,and_true,show((0:Int) != 0)=false from rfl,pn,false_implies,true_implies,true_and]
   exact⟨h1,OY hw hc,⟨by omega,by omega⟩,Te (by simp[bt]) (by simp[bt]) (by simp[bt])⟩
 · have e1:pz l=[]:=if_neg he
   rw[e1]
   have hne:(dg gw l != 0)=true:=by simpa using he
   refine au.we (m':=[]) (aa aI (Gx l (dg gw l) (kJ l).length (bt (kJ l))) ?_)
   simp only[Fc,bu,aA.ok,hne,acS,false_implies,true_implies,and_true]
   exact h1
theorem O0 {l:List Ins} (lo:Int) (hw:sV l) (hc:cZ l≤1000000):au ae env 95 [.agg [sI .i64 lo,aL l]] [] (.aK [.p (.ps (wg lo l).length 1 (bt (wg lo l))),sI .i64 (NV lo l)]) []:=by
 have ct:bH=70368744177664:=rfl
 have hl:=rV (l:=l) hc
 have h1:=ue hw hc
 have hu:=kE 4 lo.toNat
 have t1:=OZ lo l (dg gw l) (pz l).length (pU 4 lo.toNat).length (bt (pz l)) (bt (pU 4 lo.toNat))
 have Lr : ∀e:Int,NV lo l=e→e≠0→au ae env 95 [.agg [sI .i64 lo,aL l]] [] (.aK [.os none 0 0 [],sI .i64 e]) []→au ae env 95 [.agg [sI .i64 lo,aL l]] [] (.aK [.p (.ps (wg lo l).length 1 (bt (wg lo l))),sI .i64 (NV lo l)]) []:=fun e h h0 k=>by
  have:wg lo l=[]:=if_neg (by rw[h];exact h0)
  rw[this,h];exact au.we k
 by_cases c1:lo<0
 · refine Lr 2 (if_pos (.inl c1)) (by decide) (aa aI t1 ?_)
   simp only[rU,bu,aA.ok,c1,decide_true,acS,false_implies,true_implies,and_true]
 · by_cases c2:lo>50000
   · refine Lr 2 (if_pos (.inr c2)) (by decide) (aa aI t1 ?_)
     simp only[rU,bu,aA.ok,c1,c2,decide_true,decide_false,acS,pn,false_implies,true_implies,and_true,true_and]
   · have e0:NV lo l=dg gw l:=if_neg (by omega)
     by_cases he:dg gw l=0
     · have e1:wg lo l=(if lo=0 then[0] else(1::pU 4 lo.toNat)++[127])++pz l:=if_pos (by rw[e0,he])
       rw[e0,he,e1]
       rw[he] at h1 t1
       by_cases c3:lo=0
       · have d3:decide (lo>0)=false:=decide_eq_false (by omega)
         refine au.vZ (tok:=some 0) (m':=[.tok]) (aa aI t1 ?_)
         simp only[rU,bu,aA.ok,c1,c2,d3,decide_true,decide_false,ct,acO,dp,and_true,show((0:Int) != 0)=false from rfl,acS,pn,false_implies,true_implies,true_and]
         refine⟨h1,⟨by omega,by omega⟩,Te ?_ ?_ ?_⟩
         · simp[bt,c3]
         · simp[bt,c3];omega
         · simp[bt,c3]
       · have d3:decide (lo>0)=true:=decide_eq_true (by omega)
         have abh:acu.wrap lo=((lo.toNat:Nat):Int):=by rw[Gi (by omega) (by omega)];omega
         refine au.vZ (tok:=some 0) (m':=[.tok]) (aa aI t1 ?_)
         simp only[rU,bu,aA.ok,c1,c2,d3,decide_true,decide_false,ct,abh,acO,dp,and_true,show((0:Int) != 0)=false from rfl,acS,pn,false_implies,true_implies,true_and]
         refine⟨h1,zu lo.toNat (by omega),⟨by omega,by omega⟩,⟨by omega,by omega⟩,⟨by omega,by omega⟩,Te ?_ ?_ ?_⟩
         · simp[bt,c3]
         · simp[bt,c3];omega
         · simp[bt,c3]
     · have hne:(dg gw l != 0)=true:=by simpa using he
       refine Lr _ e0 he (aa aI t1 ?_)
       simp only[rU,bu,aA.ok,c1,c2,hne,decide_false,acS,pn,false_implies,true_implies,and_true,true_and]
       exact h1
end Go.Proofs.YtncncijedmfpjaaGreatDoor.N
end
section
namespace Go.Am
open Go.RowKit
section
variable {H:Type} {enc:TypeId×Value→H} {P:Program} {w:World} {base:Nat} {spare:Nat→Bool} {held:Bool} {tL tI ti tu tn tt:TypeId} {fs:Array Field}
theorem wh {g:Gh} {w:World} : ∀{l:List PV} {cs:List Value},F0 g w l cs→cY g w (l.map .p) cs
 |[],[],_=>trivial
 |_::_,_::_,h=>⟨.p _ _ h.1,wh h.2⟩
 |[],_::_,h=>h.elim
 |_::_,[],h=>h.elim
end
end Go.Am
end
section
namespace Go.Am
open Go.RowKit
section
variable {H:Type} {enc:TypeId×Value→H} {P:Program} {w:World} {base:Nat} {spare:Nat→Bool} {held:Bool}
theorem JQ {g:Gh} {w:World} {l:List PV} {cs:Array Value} (h:F0 g w l cs.toList):VA g w (.agg (l.map .p)) (.agg cs):=by
 rw[VA.Aq]
 exact wh h
end
end Go.Am
end
section
namespace Go.Am
open Go.RowKit
structure Ty where
 p:Int
 r:Int
structure Im where
 mo:ByteArray
 nm:ByteArray
 ty:Int
structure Fu where
 ty:Int
 lo:Int
 l:List Ins
structure Li where
 mn:Int
 mx:Int
 cap:Bool
structure Gl where
 mu:Bool
 l:List Ins
structure Ex where
 nm:ByteArray
 kind:Int
 ix:Int
structure El where
 l:List Ins
 fs:List Int
structure Da where
 l:List Ins
 bs:List Int
abbrev pL (l:List Ins):PV:= .ps l.length 8 (ak l)
abbrev pT (k:IntKind) (l:List Int):PV:= .ps l.length 1 (bU k l)
abbrev cK (x:Ty):List PV:=[.sc (.int .i64 x.p),.sc (.int .i64 x.r)]
abbrev bp (x:Im):List PV:=[.sc (.string x.mo),.sc (.string x.nm),.sc (.int .i64 x.ty)]
abbrev aO (x:Fu):List PV:=[.sc (.int .i64 x.ty),.sc (.int .i64 x.lo),pL x.l]
abbrev aH (x:Li):List PV:=[.sc (.int .u32 x.mn),.sc (.int .u32 x.mx),.sc (.bool x.cap)]
abbrev bP (x:Gl):List PV:=[.sc (.bool x.mu),pL x.l]
abbrev bB (x:Ex):List PV:=[.sc (.string x.nm),.sc (.int .i64 x.kind),.sc (.int .u32 x.ix)]
abbrev aW (x:El):List PV:=[pL x.l,pT .u32 x.fs]
abbrev bq (x:Da):List PV:=[pL x.l,pT .u8 x.bs]
def XW (k:IntKind) (l:List Int):Prop:=l.length≤maxLen ∧ ∀t∈l,(ac5 k t).wf=true
def A8 (l:List Ins):Prop:=l.length≤maxLen∧sV l
def Tf (x:Ty):Prop:=(ac5 .i64 x.p).wf=true∧(ac5 .i64 x.r).wf=true
def Tg (x:Im):Prop:=x.mo.size≤maxLen∧x.nm.size≤maxLen∧(ac5 .i64 x.ty).wf=true
def Th (x:Fu):Prop:=(ac5 .i64 x.ty).wf=true∧(ac5 .i64 x.lo).wf=true∧A8 x.l
def tN (x:Li):Prop:=(ac5 .u32 x.mn).wf=true∧(ac5 .u32 x.mx).wf=true
def Ti (x:Gl):Prop:=A8 x.l
def Tj (x:Ex):Prop:=x.nm.size≤maxLen∧(ac5 .i64 x.kind).wf=true∧(ac5 .u32 x.ix).wf=true
def Tk (x:El):Prop:=A8 x.l∧XW .u32 x.fs
def Tl (x:Da):Prop:=A8 x.l∧XW .u8 x.bs
structure Mo where
 tys:List Ty
 aZ:List Im
 fns:List Fu
 dh:List Li
 dw:List Li
 gls:List Gl
 exs:List Ex
 st:Bool
 sn:Int
 els:List El
 aY:List Da
def oF {α:Type} (w:α→Prop) (l:List α):Prop:=l.length≤maxLen ∧ ∀x∈l,w x
structure Mo.wf (M:Mo):Prop where
 tys:oF Tf M.tys
 aZ:oF Tg M.aZ
 fns:oF Th M.fns
 dh:oF tN M.dh
 dw:oF tN M.dw
 gls:oF Ti M.gls
 exs:oF Tj M.exs
 sn:(ac5 .u32 M.sn).wf=true
 els:oF Tk M.els
 aY:oF Tl M.aY
abbrev Mo.aJ (M:Mo):List PV:=[.ps M.tys.length 2 (M.tys.flatMap cK),.ps M.aZ.length 3 (M.aZ.flatMap bp),.ps M.fns.length 3 (M.fns.flatMap aO),.ps M.dh.length 3 (M.dh.flatMap aH),.ps M.dw.length 3 (M.dw.flatMap aH),
 .ps M.gls.length 2 (M.gls.flatMap bP),.ps M.exs.length 3 (M.exs.flatMap bB),.sc (.bool M.st),.sc (.int .u32 M.sn),.ps M.els.length 2 (M.els.flatMap aW),.ps M.aY.length 2 (M.aY.flatMap bq)]
theorem aU {α:Type} {z:Nat} {enc:α→List PV} (hz : ∀x,(enc x).length=z) : ∀{l:List α} {k:Nat} {x:α},l[k]? = some x → ∀j,j<z→(l.flatMap enc).getD (k*z+j) .bk=(enc x).getD j .bk
 |y::r,0,x,h,j,hj=>by
  simp only[List.getElem?_cons_zero,Option.some.injEq] at h
  subst h
  rw[ac2,Nat.zero_mul,pD,di,di,List.getElem?_append_left (by rw[hz];exact hj)]
 |y::r,k+1,x,h,j,hj=>by
  simp only[List.getElem?_cons_succ] at h
  have ih:=aU hz h j hj
  rw[ac2,di,List.getElem?_append_right (by rw[hz,pB];omega),hz,show(k+1)*z+j-z=k*z+j by rw[pB];omega,←di]
  exact ih
theorem CV {α:Type} {z:Nat} {enc:α→List PV} (hz : ∀x,(enc x).length=z) : ∀l:List α,(l.flatMap enc).length=l.length*z
 |[]=>by simp
 |x::r=>by rw[ac2,dT,hz,CV hz r,od,pB];omega
section
variable {H:Type} {enc:TypeId×Value→H} {P:Program} {w:World} {base:Nat} {spare:Nat→Bool} {held:Bool}
theorem dH {t:TypeId} {ts:List TypeId} {fs:Array Field} (ht:P.underlying t=some (.struct fs)) (hz:P.cellsOf t=ts.length) (hf:(fs.toList.map fun f=>(f.offset,f.type))=ts.zipIdx.map fun q=>(q.2,q.1))
  (h1 : ∀t∈ts,P.cellsOf t=1) {fuel:Nat} {cs:List Value} {x:DataW H×List MemPlace} (h:aca enc P w base spare held fuel t cs=some x) :
  ∃m,cs.length=ts.length ∧ ∀(i:Nat) (u:TypeId),ts[i]? = some u → ∃y,aca enc P w base spare held m u ((cs.drop i).take 1)=some y:=by
 obtain⟨m,rfl,hlen,hg⟩:=iY ht h
 rw[hz] at hlen
 refine⟨m,hlen,fun i u hi=> ?_⟩
 obtain⟨f,q1,q2,q3⟩:=SN (fs:=fs) (i:=i) (o:=i) (t:=u) (by rw[hf,List.getElem?_map,List.getElem?_zipIdx,hi];simp)
 obtain⟨y,hy⟩:=hg i f q1
 rw[q2,q3,h1 u (List.mem_of_getElem? hi)] at hy
 exact⟨y,hy⟩
structure Eo (P:Program) (tM qM qN qO mE qP qQ qR qT td th uf x7 qw tj tq tr tv tL tI ti tu tn tt ts tb t8 tk:TypeId):Prop where
 ins : ∃fs,SM P tL tI ti tu tn tt fs
 us:P.underlying ts=some .string
 ub:P.underlying tb=some .bool
 u8:P.underlying t8=some (.slice tk)
 uk:P.underlying tk=some (.int .u8)
 one:[ti,tu,tL,tt,ts,tb,t8,tk,qM,qN,qO,mE,qP,qQ,qR,qT].all (fun t=>P.cellsOf t==1)=true
 sl : ∀q∈[(qM,td),(qN,th),(qO,uf),(mE,qw),(qP,tj),(qQ,tq),(qR,tr),(qT,tv)],P.underlying q.1=some (.slice q.2)
 st : ∀q∈[(tM,[qM,qN,qO,mE,mE,qP,qQ,tb,tu,qR,qT]),(td,[ti,ti]),(th,[ts,ts,ti]),(x7,[ti,tL]),(qw,[tu,tu,tb]),(tj,[tb,tL]),(tq,[ts,ti,tu]),(tr,[tL,tt]),(tv,[tL,t8])],
  ∃fs,P.underlying q.1=some (.struct fs)∧P.cellsOf q.1=q.2.length∧(fs.toList.map fun f=>(f.offset,f.type))=q.2.zipIdx.map fun q=>(q.2,q.1)
 fu : ∃fs,P.underlying uf=some (.struct fs)∧P.cellsOf uf=3∧(fs.toList.map fun f=>(f.offset,f.type))=[(0,ti),(1,x7)]
theorem nA {tt tu:TypeId} {k:IntKind} (ht:P.underlying tt=some (.slice tu)) (hu:P.underlying tu=some (.int k)) (h1:P.cellsOf tu=1) {fuel:Nat} {cs:List Value} {x:DataW H×List MemPlace}
  (h:aca enc P w base spare held fuel tt cs=some x) : ∃l:List Int,XW k l∧bR w [pT k l] cs:=by
 obtain⟨l,w1,w2,k1⟩:=oC ht hu h1 h
 exact⟨l,⟨w1,w2⟩,k1⟩
end
section
variable {H:Type} {enc:TypeId×Value→H} {P:Program} {w:World} {base:Nat} {spare:Nat→Bool} {held:Bool} {tM qM qN qO mE qP qQ qR qT td th uf x7 qw tj tq tr tv tL tI ti tu tn tt ts tb t8 tk:TypeId}
theorem Eo.c1 (T:Eo P tM qM qN qO mE qP qQ qR qT td th uf x7 qw tj tq tr tv tL tI ti tu tn tt ts tb t8 tk) {t:TypeId} (h:t∈[ti,tu,tL,tt,ts,tb,t8,tk,qM,qN,qO,mE,qP,qQ,qR,qT]):P.cellsOf t=1:=by
 simpa using List.all_eq_true.1 T.one t h
theorem x8 (T:Eo P tM qM qN qO mE qP qQ qR qT td th uf x7 qw tj tq tr tv tL tI ti tu tn tt ts tb t8 tk) {fuel:Nat} {cs:List Value} {x:DataW H×List MemPlace} (h:aca enc P w base spare held fuel tt cs=some x) : ∃l:List Int,XW .u32 l∧bR w [pT .u32 l] cs:=by
 obtain⟨fs,I⟩:=T.ins
 exact nA I.kt I.ku (T.c1 (by simp)) h
theorem x9 (T:Eo P tM qM qN qO mE qP qQ qR qT td th uf x7 qw tj tq tr tv tL tI ti tu tn tt ts tb t8 tk) {fuel:Nat} {cs:List Value} {x:DataW H×List MemPlace} (h:aca enc P w base spare held fuel t8 cs=some x) : ∃l:List Int,XW .u8 l∧bR w [pT .u8 l] cs:=
 nA T.u8 T.uk (T.c1 (by simp)) h
theorem jk (T:Eo P tM qM qN qO mE qP qQ qR qT td th uf x7 qw tj tq tr tv tL tI ti tu tn tt ts tb t8 tk) {fuel:Nat} {cs:List Value} {x:DataW H×List MemPlace} (h:aca enc P w base spare held fuel tL cs=some x) : ∃l:List Ins,A8 l∧bR w [pL l] cs:=by
 obtain⟨fs,I⟩:=T.ins
 exact CI I fuel cs x h
theorem Fe (T:Eo P tM qM qN qO mE qP qQ qR qT td th uf x7 qw tj tq tr tv tL tI ti tu tn tt ts tb t8 tk) {fuel:Nat} {cs:List Value} {x:DataW H×List MemPlace} (h:aca enc P w base spare held fuel td cs=some x) : ∃y:Ty,Tf y∧bR w (cK y) cs:=by
 obtain⟨fs,I⟩:=T.ins
 obtain⟨fs',q1,q2,q3⟩:=T.st (td,[ti,ti]) (by simp)
 obtain⟨m,hlen,get⟩:=dH q1 q2 q3 (by simp[T.c1]) h
 match cs,hlen with
 |[u0,u1],_=>
  obtain⟨y0,e0⟩:=get 0 ti rfl
  obtain⟨y1,e1⟩:=get 1 ti rfl
  simp only[acw,acY,acZ,ac0] at e0 e1
  obtain⟨n0,w0,k0⟩:=bS I.ki e0
  obtain⟨n1,w1,k1⟩:=bS I.ki e1
  exact⟨⟨n0,n1⟩,⟨w0,w1⟩,k0.cat (k1)⟩
theorem Ff (T:Eo P tM qM qN qO mE qP qQ qR qT td th uf x7 qw tj tq tr tv tL tI ti tu tn tt ts tb t8 tk) {fuel:Nat} {cs:List Value} {x:DataW H×List MemPlace} (h:aca enc P w base spare held fuel th cs=some x) : ∃y:Im,Tg y∧bR w (bp y) cs:=by
 obtain⟨fs,I⟩:=T.ins
 obtain⟨fs',q1,q2,q3⟩:=T.st (th,[ts,ts,ti]) (by simp)
 obtain⟨m,hlen,get⟩:=dH q1 q2 q3 (by simp[T.c1]) h
 match cs,hlen with
 |[u0,u1,u2],_=>
  obtain⟨y0,e0⟩:=get 0 ts rfl
  obtain⟨y1,e1⟩:=get 1 ts rfl
  obtain⟨y2,e2⟩:=get 2 ti rfl
  simp only[acw,acY,acZ,ac0] at e0 e1 e2
  obtain⟨n0,w0,k0⟩:=iX T.us e0
  obtain⟨n1,w1,k1⟩:=iX T.us e1
  obtain⟨n2,w2,k2⟩:=bS I.ki e2
  exact⟨⟨n0,n1,n2⟩,⟨w0,w1,w2⟩,k0.cat (k1.cat (k2))⟩
theorem wj (T:Eo P tM qM qN qO mE qP qQ qR qT td th uf x7 qw tj tq tr tv tL tI ti tu tn tt ts tb t8 tk) {fuel:Nat} {cs:List Value} {x:DataW H×List MemPlace} (h:aca enc P w base spare held fuel qw cs=some x) : ∃y:Li,tN y∧bR w (aH y) cs:=by
 obtain⟨fs,I⟩:=T.ins
 obtain⟨fs',q1,q2,q3⟩:=T.st (qw,[tu,tu,tb]) (by simp)
 obtain⟨m,hlen,get⟩:=dH q1 q2 q3 (by simp[T.c1]) h
 match cs,hlen with
 |[u0,u1,u2],_=>
  obtain⟨y0,e0⟩:=get 0 tu rfl
  obtain⟨y1,e1⟩:=get 1 tu rfl
  obtain⟨y2,e2⟩:=get 2 tb rfl
  simp only[acw,acY,acZ,ac0] at e0 e1 e2
  obtain⟨n0,w0,k0⟩:=bS I.ku e0
  obtain⟨n1,w1,k1⟩:=bS I.ku e1
  obtain⟨n2,k2⟩:=kC T.ub e2
  exact⟨⟨n0,n1,n2⟩,⟨w0,w1⟩,k0.cat (k1.cat (k2))⟩
theorem Fg (T:Eo P tM qM qN qO mE qP qQ qR qT td th uf x7 qw tj tq tr tv tL tI ti tu tn tt ts tb t8 tk) {fuel:Nat} {cs:List Value} {x:DataW H×List MemPlace} (h:aca enc P w base spare held fuel tj cs=some x) : ∃y:Gl,Ti y∧bR w (bP y) cs:=by
 obtain⟨fs,I⟩:=T.ins
 obtain⟨fs',q1,q2,q3⟩:=T.st (tj,[tb,tL]) (by simp)
 obtain⟨m,hlen,get⟩:=dH q1 q2 q3 (by simp[T.c1]) h
 match cs,hlen with
 |[u0,u1],_=>
  obtain⟨y0,e0⟩:=get 0 tb rfl
  obtain⟨y1,e1⟩:=get 1 tL rfl
  simp only[acw,acY,acZ,ac0] at e0 e1
  obtain⟨n0,k0⟩:=kC T.ub e0
  obtain⟨n1,w1,k1⟩:=jk T e1
  exact⟨⟨n0,n1⟩,w1,k0.cat (k1)⟩
theorem Fh (T:Eo P tM qM qN qO mE qP qQ qR qT td th uf x7 qw tj tq tr tv tL tI ti tu tn tt ts tb t8 tk) {fuel:Nat} {cs:List Value} {x:DataW H×List MemPlace} (h:aca enc P w base spare held fuel tq cs=some x) : ∃y:Ex,Tj y∧bR w (bB y) cs:=by
 obtain⟨fs,I⟩:=T.ins
 obtain⟨fs',q1,q2,q3⟩:=T.st (tq,[ts,ti,tu]) (by simp)
 obtain⟨m,hlen,get⟩:=dH q1 q2 q3 (by simp[T.c1]) h
 match cs,hlen with
 |[u0,u1,u2],_=>
  obtain⟨y0,e0⟩:=get 0 ts rfl
  obtain⟨y1,e1⟩:=get 1 ti rfl
  obtain⟨y2,e2⟩:=get 2 tu rfl
  simp only[acw,acY,acZ,ac0] at e0 e1 e2
  obtain⟨n0,w0,k0⟩:=iX T.us e0
  obtain⟨n1,w1,k1⟩:=bS I.ki e1
  obtain⟨n2,w2,k2⟩:=bS I.ku e2
  exact⟨⟨n0,n1,n2⟩,⟨w0,w1,w2⟩,k0.cat (k1.cat (k2))⟩
theorem Fi (T:Eo P tM qM qN qO mE qP qQ qR qT td th uf x7 qw tj tq tr tv tL tI ti tu tn tt ts tb t8 tk) {fuel:Nat} {cs:List Value} {x:DataW H×List MemPlace} (h:aca enc P w base spare held fuel tr cs=some x) : ∃y:El,Tk y∧bR w (aW y) cs:=by
 obtain⟨fs,I⟩:=T.ins
 obtain⟨fs',q1,q2,q3⟩:=T.st (tr,[tL,tt]) (by simp)
 obtain⟨m,hlen,get⟩:=dH q1 q2 q3 (by simp[T.c1]) h
 match cs,hlen with
 |[u0,u1],_=>
  obtain⟨y0,e0⟩:=get 0 tL rfl
  obtain⟨y1,e1⟩:=get 1 tt rfl
  simp only[acw,acY,acZ,ac0] at e0 e1
  obtain⟨n0,w0,k0⟩:=jk T e0
  obtain⟨n1,w1,k1⟩:=x8 T e1
  exact⟨⟨n0,n1⟩,⟨w0,w1⟩,k0.cat (k1)⟩
theorem Fj (T:Eo P tM qM qN qO mE qP qQ qR qT td th uf x7 qw tj tq tr tv tL tI ti tu tn tt ts tb t8 tk) {fuel:Nat} {cs:List Value} {x:DataW H×List MemPlace} (h:aca enc P w base spare held fuel tv cs=some x) : ∃y:Da,Tl y∧bR w (bq y) cs:=by
 obtain⟨fs,I⟩:=T.ins
 obtain⟨fs',q1,q2,q3⟩:=T.st (tv,[tL,t8]) (by simp)
 obtain⟨m,hlen,get⟩:=dH q1 q2 q3 (by simp[T.c1]) h
 match cs,hlen with
 |[u0,u1],_=>
  obtain⟨y0,e0⟩:=get 0 tL rfl
  obtain⟨y1,e1⟩:=get 1 t8 rfl
  simp only[acw,acY,acZ,ac0] at e0 e1
  obtain⟨n0,w0,k0⟩:=jk T e0
  obtain⟨n1,w1,k1⟩:=x9 T e1
  exact⟨⟨n0,n1⟩,⟨w0,w1⟩,k0.cat (k1)⟩
theorem Fk (T:Eo P tM qM qN qO mE qP qQ qR qT td th uf x7 qw tj tq tr tv tL tI ti tu tn tt ts tb t8 tk) {fuel:Nat} {cs:List Value} {x:DataW H×List MemPlace} (h:aca enc P w base spare held fuel uf cs=some x) : ∃y:Fu,Th y∧bR w (aO y) cs:=by
 obtain⟨fs,I⟩:=T.ins
 obtain⟨fs0,r1,r2,r3⟩:=T.fu
 obtain⟨fs',q1,q2,q3⟩:=T.st (x7,[ti,tL]) (by simp)
 obtain⟨m,rfl,hlen,hg⟩:=iY r1 h
 rw[r2] at hlen
 obtain⟨f0,a1,a2,a3⟩:=SN (fs:=fs0) (i:=0) (o:=0) (t:=ti) (by rw[r3];rfl)
 obtain⟨f1,b1,b2,b3⟩:=SN (fs:=fs0) (i:=1) (o:=1) (t:=x7) (by rw[r3];rfl)
 obtain⟨y0,e0⟩:=hg 0 f0 a1
 obtain⟨y1,e1⟩:=hg 1 f1 b1
 rw[a2,a3,T.c1 (t:=ti) (by simp)] at e0
 rw[b2,b3,q2] at e1
 match cs,hlen with
 |[u0,u1,u2],_=>
  simp only[acw,acY,acZ,ac0,od,acA,pD,Nat.reduceAdd] at e0 e1
  obtain⟨n,_,get⟩:=dH q1 q2 q3 (by simp[T.c1]) e1
  obtain⟨z0,g0⟩:=get 0 ti rfl
  obtain⟨z1,g1⟩:=get 1 tL rfl
  simp only[acw,acY,acZ,ac0] at g0 g1
  obtain⟨n0,w0,k0⟩:=bS I.ki e0
  obtain⟨n1,w1,k1⟩:=bS I.ki g0
  obtain⟨n2,w2,k2⟩:=jk T g1
  exact⟨⟨n0,n1,n2⟩,⟨w0,w1,w2⟩,k0.cat (k1.cat k2)⟩
theorem ep {α:Type} {lU:α→List PV} {wf:α→Prop} {lt te:TypeId} {z:Nat} (hl:P.underlying lt=some (.slice te)) (hz:P.cellsOf te=z) (h1:1≤z) {fuel:Nat} {cs:List Value} {x:DataW H×List MemPlace} (h:aca enc P w base spare held fuel lt cs=some x)
  (hE : ∀(fuel:Nat) (us:List Value) y,aca enc P w base spare held fuel te us=some y → ∃a:α,wf a∧bR w (lU a) us) : ∃l:List α,oF wf l∧bR w [.ps l.length z (l.flatMap lU)] cs:=by
 obtain⟨l,a,b,c⟩:=jO (lU:=lU) (wf:=wf) hl (by omega) h fun n _ us y hy=>hE n us y hy
 rw[hz] at c
 exact⟨l,⟨a,b⟩,c⟩
theorem uj (T:Eo P tM qM qN qO mE qP qQ qR qT td th uf x7 qw tj tq tr tv tL tI ti tu tn tt ts tb t8 tk) {fuel:Nat} {cs:List Value} {x:DataW H×List MemPlace} (h:aca enc P w base spare held fuel tM cs=some x) : ∃M:Mo,M.wf∧bR w M.aJ cs:=by
 obtain⟨fs,I⟩:=T.ins
 obtain⟨fs',q1,q2,q3⟩:=T.st (tM,[qM,qN,qO,mE,mE,qP,qQ,tb,tu,qR,qT]) (by simp)
 obtain⟨m,hlen,get⟩:=dH q1 q2 q3 (by simp[T.c1]) h
 have z : ∀t ts',(t,ts')∈[(tM,[qM,qN,qO,mE,mE,qP,qQ,tb,tu,qR,qT]),(td,[ti,ti]),(th,[ts,ts,ti]),(x7,[ti,tL]),(qw,[tu,tu,tb]),(tj,[tb,tL]),(tq,[ts,ti,tu]),(tr,[tL,tt]),(tv,[tL,t8])]→P.cellsOf t=ts'.length:=
  fun t ts' hm=>by
   obtain⟨_,_,e,_⟩:=T.st (t,ts') hm
   exact e
 obtain⟨_,_,z3,_⟩:=T.fu
 match cs,hlen with
 |[u0,u1,u2,u3,u4,u5,u6,u7,u8,u9,u10],_=>
  obtain⟨y0,e0⟩:=get 0 qM rfl
  obtain⟨y1,e1⟩:=get 1 qN rfl
  obtain⟨y2,e2⟩:=get 2 qO rfl
  obtain⟨y3,e3⟩:=get 3 mE rfl
  obtain⟨y4,e4⟩:=get 4 mE rfl
  obtain⟨y5,e5⟩:=get 5 qP rfl
  obtain⟨y6,e6⟩:=get 6 qQ rfl
  obtain⟨y7,e7⟩:=get 7 tb rfl
  obtain⟨y8,e8⟩:=get 8 tu rfl
  obtain⟨y9,e9⟩:=get 9 qR rfl
  obtain⟨y10,e10⟩:=get 10 qT rfl
  simp only[acw,acY,acZ,ac0] at e0 e1 e2 e3 e4 e5 e6 e7 e8 e9 e10
  obtain⟨n0,w0,k0⟩:=ep (lU:=cK) (wf:=Tf) (T.sl (qM,td) (by simp)) (z td [ti,ti] (by simp)) (ft rfl) e0 fun _ _ _ g=>Fe T g
  obtain⟨n1,w1,k1⟩:=ep (lU:=bp) (wf:=Tg) (T.sl (qN,th) (by simp)) (z th [ts,ts,ti] (by simp)) (ft rfl) e1 fun _ _ _ g=>Ff T g
  obtain⟨n2,w2,k2⟩:=ep (lU:=aO) (wf:=Th) (T.sl (qO,uf) (by simp)) z3 (ft rfl) e2 fun _ _ _ g=>Fk T g
  obtain⟨n3,w3,k3⟩:=ep (lU:=aH) (wf:=tN) (T.sl (mE,qw) (by simp)) (z qw [tu,tu,tb] (by simp)) (ft rfl) e3 fun _ _ _ g=>wj T g
  obtain⟨n4,w4,k4⟩:=ep (lU:=aH) (wf:=tN) (T.sl (mE,qw) (by simp)) (z qw [tu,tu,tb] (by simp)) (ft rfl) e4 fun _ _ _ g=>wj T g
  obtain⟨n5,w5,k5⟩:=ep (lU:=bP) (wf:=Ti) (T.sl (qP,tj) (by simp)) (z tj [tb,tL] (by simp)) (ft rfl) e5 fun _ _ _ g=>Fg T g
  obtain⟨n6,w6,k6⟩:=ep (lU:=bB) (wf:=Tj) (T.sl (qQ,tq) (by simp)) (z tq [ts,ti,tu] (by simp)) (ft rfl) e6 fun _ _ _ g=>Fh T g
  obtain⟨n7,k7⟩:=kC T.ub e7
  obtain⟨n8,w8,k8⟩:=bS I.ku e8
  obtain⟨n9,w9,k9⟩:=ep (lU:=aW) (wf:=Tk) (T.sl (qR,tr) (by simp)) (z tr [tL,tt] (by simp)) (ft rfl) e9 fun _ _ _ g=>Fi T g
  obtain⟨n10,w10,k10⟩:=ep (lU:=bq) (wf:=Tl) (T.sl (qT,tv) (by simp)) (z tv [tL,t8] (by simp)) (ft rfl) e10 fun _ _ _ g=>Fj T g
  exact⟨⟨n0,n1,n2,n3,n4,n5,n6,n7,n8,n9,n10⟩,⟨w0,w1,w2,w3,w4,w5,w6,w8,w9,w10⟩,k0.cat (k1.cat (k2.cat (k3.cat (k4.cat (k5.cat (k6.cat (k7.cat (k8.cat (k9.cat (k10))))))))))⟩
end
end Go.Am
end
