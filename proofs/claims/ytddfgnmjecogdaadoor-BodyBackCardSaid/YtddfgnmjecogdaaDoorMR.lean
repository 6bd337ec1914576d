import Derived.Test.YtddfgnmjecogdaaDoorMK
import Derived.Test.YtddfgnmjecogdaaDoorMH
import Derived.Test.YtddfgnmjecogdaaDoorMI
open Nat renaming ble_eq→V6,beq→be
open Go.Proofs.Tryd renaming prog→ae
open Go.Fn renaming func→V2
open Go.IntKind renaming i64→vj,u32→VO,u8→V8,i32→V9
open Bool renaming false_eq_true→rh,true_eq_false→Wa,and_eq_true→dv
open List renaming length_append→ei,length_cons→pa,length_nil→VS,drop_eq_nil_of_le→WK,drop_eq_getElem_cons→WL,getElem_mem→fw,drop_zero→VR
open Int renaming toNat_natCast→V5,reduceBEq→Wk
noncomputable section
section
set_option linter.unusedSimpArgs false
set_option linter.unusedVariables false
namespace Go.Proofs.YtddfgnmjecogdaaDoor.N
open Go Go.Am
abbrev aaa:=Int→Nat
abbrev aab:=Int→List PV
def Ul (l:List Ins) (k:Nat) (X:List PV) (i:Nat) (op r a b nn:Int) (tg:List Int) (ll le:List Ins) (al:Int) (st:Bool) (J J':aaa) (Q Q':aab) (JJ:List PV→Nat) (QQ:List PV→List PV) (f:FuncId) (_:List AV) (m:Mem):Option (AV×Mem):=cond (be f 53) (some (.bk [sI .u32 al,sB st],m)) none
def Um (l:List Ins) (k:Nat) (X:List PV) (i:Nat) (op r a b nn:Int) (tg:List Int) (ll le:List Ins) (al:Int) (st:Bool) (J J':aaa) (Q Q':aab) (JJ:List PV→Nat) (QQ:List PV→List PV) (f:FuncId) (args:List AV) (m:Mem):Option (AV×Mem):=
 cond (be f 35) (match args with | [.p (.sc (.int _ n))]=>some (.p (.ps (J n) 1 (Q n)),m) | _=>none)
 (cond (be f 52) (match args with | [.p (.sc (.int _ n))]=>some (.p (.ps (J' n) 1 (Q' n)),m) | _=>none)
 (cond (be f 32) (match args with | [.os (some _) k' _ X',.p (.ps _ _ cs)]=>some (.os (some 1) (k'+JJ cs) 1 (X'++QQ cs),[.dead,.tok]) | _=>none) none))
def Un (l:List Ins) (k:Nat) (X:List PV) (i:Nat) (op r a b nn:Int) (tg:List Int) (ll le:List Ins) (al:Int) (st:Bool) (J J':aaa) (Q Q':aab) (JJ:List PV→Nat) (QQ:List PV→List PV):FuncId→Nat→Nat→Option (AV→AV):=eF [(32,5,1,Ch op r a b nn tg ll le),(32,47,0,sI .i64 ((i+1:Nat):Int))]
def R4 (l:List Ins) (k:Nat) (X:List PV) (i j:Nat) (op r a b nn:Int) (tg:List Int) (ll le:List Ins) (t:Int) (J:aaa) (Q:aab):FuncId→Nat→Nat→Option (AV→AV):=eF [(32,38,1,sI .u32 t),(32,40,0,sI .i64 ((j+1:Nat):Int)),(32,47,0,sI .i64 ((i+1:Nat):Int))]
def R5 (l:List Ins) (k:Nat) (X:List PV) (i j:Nat) (op r a b nn:Int) (tg:List Int) (ll le:List Ins) (t:Int) (J:aaa) (Q:aab) (f:FuncId) (args:List AV) (m:Mem):Option (AV×Mem):=
 cond (be f 35) (match args with | [.p (.sc (.int _ n))]=>some (.p (.ps (J n) 1 (Q n)),m) | _=>none) none
def P0:gQ:=fy dY cC [(32,0)] [] []
def R6:Sc:= .fin
def IV (l:List Ins) (k:Nat) (X:List PV):aN:=
 (.at (aj ae env 32 0 [.mp 1 0,.fn (V2 51) [] [.mp 1 0],.p (.ps l.length 8 (aa l)),sI .i64 (↑l.length:Int),sI .i64 0] ([.tok,.ac [.os (some 0) k 1 X]]) 1 130))
theorem KN (l:List Ins) (k:Nat) (X:List PV):dF ae env P0 1000000 32 ([AV.os (Option.some 0) k 1 X,aL l]) ([aH.tok]) R6=IV l k X:=by kernel_rfl
def Np (l:List Ins) (k:Nat) (X:List PV) (i:Nat) (op r a b nn:Int) (tg:List Int) (ll:List Ins) (le:List Ins) (al:Int) (st:Bool) (J:aaa) (J':aaa) (Q:aab) (Q':aab) (JJ:List PV→Nat) (QQ:List PV→List PV):gQ:=pY (Ul l k X i op r a b nn tg ll le al st J J' Q Q' JJ QQ) (Um l k X i op r a b nn tg ll le al st J J' Q Q' JJ QQ) [(32,0),(32,17)] [(32,0,1),(32,0,2),(32,0,4),(32,0,5),(32,0,6),(32,0,3),(32,0,7),(32,0,14),(32,0,8),(32,0,9),(32,0,10),(32,0,11),(32,0,12),(32,0,13),(32,0,15),(32,0,16),(32,0,19),(32,0,20),(32,0,21),(32,0,22)] [(32,5,0),(32,5,1),(32,6,5),(32,0,6),(32,0,7),(32,21,2),(51,0,0),(32,33,2),(32,44,2),(32,0,22)] (Un l k X i op r a b nn tg ll le al st J J' Q Q' JJ QQ)
def P1:Sc:=(.fork (.fork (.yes .fin) (.fork (.yes .fin) (.fork .fin (.fork (.yes .fin) (.fork (.yes .fin) (.fork (.yes .fin) (.fork (.yes .fin) (.fork (.yes .fin) (.fork (.yes .fin) (.fork (.yes .fin) (.fork .fin (.fork .fin (.fork .fin (.fork (.yes .fin) .fin)))))))))))))) .fin)
def aZ (l:List Ins) (k:Nat) (X:List PV) (i:Nat) (op r:Int) (ll:List Ins) (le:List Ins) (JJ:List PV→Nat) (QQ:List PV→List PV):aN:=
 (.test (r==1) (.call ⟨32,[.os (some 0) (k+1+1) 1 (X++[.sc (.int .u8 (V8.wrap op))]++[.sc (.int .u8 127)]),.p (.ps ll.length 8 (aa ll))],[.tok],.os (some 1) (k+1+1+JJ (aa ll)) 1 (X++[.sc (.int .u8 (V8.wrap op))]++[.sc (.int .u8 127)]++QQ (aa ll)),[.dead,.tok]⟩ (.must (((k+1+1)*1).ble b7&&(k+1+1).ble b7&&true&&true&&true) (.test (decide ((↑le.length:Int)>0)) (.call ⟨32,[.os (some 0) (k+1+1+JJ (aa ll)+1) 1 (X++[.sc (.int .u8 (V8.wrap op))]++[.sc (.int .u8 127)]++QQ (aa ll)++[.sc (.int .u8 5)]),.p (.ps le.length 8 (aa le))],[.tok],.os (some 1) (k+1+1+JJ (aa ll)+1+JJ (aa le)) 1 (X++[.sc (.int .u8 (V8.wrap op))]++[.sc (.int .u8 127)]++QQ (aa ll)++[.sc (.int .u8 5)]++QQ (aa le)),[.dead,.tok]⟩ (.must (((k+1+1+JJ (aa ll)+1)*1).ble b7&&(k+1+1+JJ (aa ll)+1).ble b7&&true&&true&&true) (.must (((k+1+1+JJ (aa ll)+1+JJ (aa le)+1)*1).ble b7&&(k+1+1+JJ (aa ll)+1+JJ (aa le)+1).ble b7&&true) (.need (sI .i64 (vj.wrap ((↑i:Int)+1))=sI vj (↑(i+1):Int)) (.at (aj ae env 32 0 [.mp 1 0,.fn (V2 51) [] [.mp 1 0],.p (.ps l.length 8 (aa l)),sI .i64 (↑l.length:Int),sI .i64 (↑(i+1):Int)] ([.dead,.ac [.os (some 2) (k+1+1+JJ (aa ll)+1+JJ (aa le)+1) 1 (X++[.sc (.int .u8 (V8.wrap op))]++[.sc (.int .u8 127)]++QQ (aa ll)++[.sc (.int .u8 5)]++QQ (aa le)++[.sc (.int .u8 11)])],.tok]) 1 130)))))) (.must (((k+1+1+JJ (aa ll)+1)*1).ble b7&&(k+1+1+JJ (aa ll)+1).ble b7&&true) (.need (sI .i64 (vj.wrap ((↑i:Int)+1))=sI vj (↑(i+1):Int)) (.at (aj ae env 32 0 [.mp 1 0,.fn (V2 51) [] [.mp 1 0],.p (.ps l.length 8 (aa l)),sI .i64 (↑l.length:Int),sI .i64 (↑(i+1):Int)] ([.dead,.ac [.os (some 2) (k+1+1+JJ (aa ll)+1) 1 (X++[.sc (.int .u8 (V8.wrap op))]++[.sc (.int .u8 127)]++QQ (aa ll)++[.sc (.int .u8 11)])],.tok]) 1 130))))))) (.call ⟨32,[.os (some 0) (k+1+1) 1 (X++[.sc (.int .u8 (V8.wrap op))]++[.sc (.int .u8 64)]),.p (.ps ll.length 8 (aa ll))],[.tok],.os (some 1) (k+1+1+JJ (aa ll)) 1 (X++[.sc (.int .u8 (V8.wrap op))]++[.sc (.int .u8 64)]++QQ (aa ll)),[.dead,.tok]⟩ (.must (((k+1+1)*1).ble b7&&(k+1+1).ble b7&&true&&true&&true) (.test (decide ((↑le.length:Int)>0)) (.call ⟨32,[.os (some 0) (k+1+1+JJ (aa ll)+1) 1 (X++[.sc (.int .u8 (V8.wrap op))]++[.sc (.int .u8 64)]++QQ (aa ll)++[.sc (.int .u8 5)]),.p (.ps le.length 8 (aa le))],[.tok],.os (some 1) (k+1+1+JJ (aa ll)+1+JJ (aa le)) 1 (X++[.sc (.int .u8 (V8.wrap op))]++[.sc (.int .u8 64)]++QQ (aa ll)++[.sc (.int .u8 5)]++QQ (aa le)),[.dead,.tok]⟩ (.must (((k+1+1+JJ (aa ll)+1)*1).ble b7&&(k+1+1+JJ (aa ll)+1).ble b7&&true&&true&&true) (.must (((k+1+1+JJ (aa ll)+1+JJ (aa le)+1)*1).ble b7&&(k+1+1+JJ (aa ll)+1+JJ (aa le)+1).ble b7&&true) (.need (sI .i64 (vj.wrap ((↑i:Int)+1))=sI vj (↑(i+1):Int)) (.at (aj ae env 32 0 [.mp 1 0,.fn (V2 51) [] [.mp 1 0],.p (.ps l.length 8 (aa l)),sI .i64 (↑l.length:Int),sI .i64 (↑(i+1):Int)] ([.dead,.ac [.os (some 2) (k+1+1+JJ (aa ll)+1+JJ (aa le)+1) 1 (X++[.sc (.int .u8 (V8.wrap op))]++[.sc (.int .u8 64)]++QQ (aa ll)++[.sc (.int .u8 5)]++QQ (aa le)++[.sc (.int .u8 11)])],.tok]) 1 130)))))) (.must (((k+1+1+JJ (aa ll)+1)*1).ble b7&&(k+1+1+JJ (aa ll)+1).ble b7&&true) (.need (sI .i64 (vj.wrap ((↑i:Int)+1))=sI vj (↑(i+1):Int)) (.at (aj ae env 32 0 [.mp 1 0,.fn (V2 51) [] [.mp 1 0],.p (.ps l.length 8 (aa l)),sI .i64 (↑l.length:Int),sI .i64 (↑(i+1):Int)] ([.dead,.ac [.os (some 2) (k+1+1+JJ (aa ll)+1) 1 (X++[.sc (.int .u8 (V8.wrap op))]++[.sc (.int .u8 64)]++QQ (aa ll)++[.sc (.int .u8 11)])],.tok]) 1 130))))))))
def aQ (l:List Ins) (k:Nat) (X:List PV) (i:Nat) (op a:Int) (J:aaa) (Q:aab):aN:=
 (.call ⟨35,[sI .u32 a],[],.p (.ps (J a) 1 (Q a)),[]⟩ (.must (((k+1+J a)*1).ble b7&&(k+1+J a).ble b7&&true&&true&&true) (.must true (.need (sI .i64 (vj.wrap ((↑i:Int)+1))=sI vj (↑(i+1):Int)) (.at (aj ae env 32 0 [.mp 1 0,.fn (V2 51) [] [.mp 1 0],.p (.ps l.length 8 (aa l)),sI .i64 (↑l.length:Int),sI .i64 (↑(i+1):Int)] ([.dead,.ac [.os (some 2) (k+1+J a) 1 (X++[.sc (.int .u8 (V8.wrap op))]++Q a)],.tok]) 1 130))))))
def bh (l:List Ins) (k:Nat) (X:List PV) (i:Nat) (op:Int):aN:=
 (.must (((k+1+1)*1).ble b7&&(k+1+1).ble b7&&true) (.need (sI .i64 (vj.wrap ((↑i:Int)+1))=sI vj (↑(i+1):Int)) (.at (aj ae env 32 0 [.mp 1 0,.fn (V2 51) [] [.mp 1 0],.p (.ps l.length 8 (aa l)),sI .i64 (↑l.length:Int),sI .i64 (↑(i+1):Int)] ([.dead,.ac [.os (some 2) (k+1+1) 1 (X++[.sc (.int .u8 (V8.wrap op))]++[.sc (.int .u8 0)])],.tok]) 1 130))))
def bP (l:List Ins) (k:Nat) (X:List PV) (i:Nat) (op r a b nn:Int) (tg:List Int) (ll:List Ins) (le:List Ins) (al:Int) (st:Bool) (J:aaa) (J':aaa) (Q:aab) (Q':aab) (JJ:List PV→Nat) (QQ:List PV→List PV):aN:=
 (.test (decide ((↑i:Int)<(↑l.length:Int)))
 (.must (eW (↑i:Int) l.length&&true&&true)
 (.must (isInt vj (bA (aa l) (cE i*8))&&(isInt vj (bA (aa l) (cE i*8+1))&&(isInt VO (bA (aa l) (cE i*8+1+1))&&(isInt VO (bA (aa l) (cE i*8+1+1+1))&&(isInt V9 (bA (aa l) (cE i*8+1+1+1+1))&&(cW (bA (aa l) (cE i*8+1+1+1+1+1))&&(cW (bA (aa l) (cE i*8+1+1+1+1+1+1))&&(cW (bA (aa l) (cE i*8+1+1+1+1+1+1+1))&&true)))))))&&true)
 (.need (AV.agg [sI .i64 (aS (bA (aa l) (cE i*8))),sI .i64 (aS (bA (aa l) (cE i*8+1))),sI .u32 (aS (bA (aa l) (cE i*8+1+1))),sI .u32 (aS (bA (aa l) (cE i*8+1+1+1))),sI .i32 (aS (bA (aa l) (cE i*8+1+1+1+1))),AV.p (PV.ps (aJ (bA (aa l) (cE i*8+1+1+1+1+1))) (cH (bA (aa l) (cE i*8+1+1+1+1+1))) (aF (bA (aa l) (cE i*8+1+1+1+1+1)))),AV.p (PV.ps (aJ (bA (aa l) (cE i*8+1+1+1+1+1+1))) (cH (bA (aa l) (cE i*8+1+1+1+1+1+1))) (aF (bA (aa l) (cE i*8+1+1+1+1+1+1)))),AV.p (PV.ps (aJ (bA (aa l) (cE i*8+1+1+1+1+1+1+1))) (cH (bA (aa l) (cE i*8+1+1+1+1+1+1+1))) (aF (bA (aa l) (cE i*8+1+1+1+1+1+1+1))))]=Ch op r a b nn tg ll le)
 (.must (((k+1)*1).ble b7&&(k+1).ble b7&&true)
 (.test (op==2)
 (.must (op==2)
 (aZ l k X i op r ll le JJ QQ))
 (.test (op==3)
 (.must (op==3)
 (aZ l k X i op r ll le JJ QQ))
 (.test (op==4)
 (aZ l k X i op r ll le JJ QQ)
 (.test (op==12)
 (.must (op==12)
 (aQ l k X i op a J Q))
 (.test (op==13)
 (.must (op==13)
 (aQ l k X i op a J Q))
 (.test (op==16)
 (.must (op==16)
 (aQ l k X i op a J Q))
 (.test (op==32)
 (.must (op==32)
 (aQ l k X i op a J Q))
 (.test (op==33)
 (.must (op==33)
 (aQ l k X i op a J Q))
 (.test (op==34)
 (.must (op==34)
 (aQ l k X i op a J Q))
 (.test (op==35)
 (.must (op==35)
 (aQ l k X i op a J Q))
 (.test (op==36)
 (aQ l k X i op a J Q)
 (.test (op==17)
 (.call ⟨35,[sI .u32 a],[],.p (.ps (J a) 1 (Q a)),[]⟩
 (.must (((k+1+J a)*1).ble b7&&(k+1+J a).ble b7&&true&&true&&true)
 (.must true
 (.must (((k+1+J a+1)*1).ble b7&&(k+1+J a+1).ble b7&&true)
 (.need (sI .i64 (vj.wrap ((↑i:Int)+1))=sI vj (↑(i+1):Int))
 (.at (aj ae env 32 0 [.mp 1 0,.fn (V2 51) [] [.mp 1 0],.p (.ps l.length 8 (aa l)),sI .i64 (↑l.length:Int),sI .i64 (↑(i+1):Int)] ([.dead,.ac [.os (some 2) (k+1+J a+1) 1 (X++[.sc (.int .u8 (V8.wrap op))]++Q a++[.sc (.int .u8 0)])],.tok]) 1 130)))))))
 (.test (op==14)
 (.call ⟨35,[sI .u32 (VO.wrap (↑tg.length:Int))],[],.p (.ps (J (VO.wrap (↑tg.length:Int))) 1 (Q (VO.wrap (↑tg.length:Int)))),[]⟩
 (.must (((k+1+J (VO.wrap (↑tg.length:Int)))*1).ble b7&&(k+1+J (VO.wrap (↑tg.length:Int))).ble b7&&true&&true&&true)
 (.must true
 (.at (aj ae env 32 17 [.mp 1 0,.fn (V2 51) [] [.mp 1 0],.mp 2 0,.p (.ps l.length 8 (aa l)),sI .i64 (↑l.length:Int),sI .i64 (↑i:Int),.p (.ps tg.length 1 (bW VO tg)),sI .i64 (↑tg.length:Int),sI .i64 0] ([.dead,.ac [.os (some 3) (k+1+J (VO.wrap (↑tg.length:Int))) 1 (X++[.sc (.int .u8 (V8.wrap op))]++Q (VO.wrap (↑tg.length:Int)))],.ac [sI .i64 op,sI .i64 r,sI .u32 a,sI .u32 b,sI .i32 nn,.p (.ps tg.length 1 (bW VO tg)),.p (.ps ll.length 8 (aa ll)),.p (.ps le.length 8 (aa le))],.tok]) 1 130)))))
 (.test (op==63)
 (.must (op==63)
 (bh l k X i op))
 (.test (op==64)
 (bh l k X i op)
 (.test (op==65)
 (.call ⟨52,[sI .i32 nn],[],.p (.ps (J' nn) 1 (Q' nn)),[]⟩
 (.must (((k+1+J' nn)*1).ble b7&&(k+1+J' nn).ble b7&&true&&true&&true)
 (.need (sI .i64 (vj.wrap ((↑i:Int)+1))=sI vj (↑(i+1):Int))
 (.at (aj ae env 32 0 [.mp 1 0,.fn (V2 51) [] [.mp 1 0],.p (.ps l.length 8 (aa l)),sI .i64 (↑l.length:Int),sI .i64 (↑(i+1):Int)] ([.dead,.ac [.os (some 2) (k+1+J' nn) 1 (X++[.sc (.int .u8 (V8.wrap op))]++Q' nn)],.tok]) 1 130)))))
 (.call ⟨53,[sI .i64 op],[],.bk [sI .u32 al,.p (.sc (.bool st))],[]⟩
 (.test (st)
 (.call ⟨35,[sI .u32 a],[],.p (.ps (J a) 1 (Q a)),[]⟩
 (.must (((k+1+J a)*1).ble b7&&(k+1+J a).ble b7&&true&&true&&true)
 (.must true
 (.call ⟨35,[sI .u32 b],[],.p (.ps (J b) 1 (Q b)),[]⟩
 (.must (((k+1+J a+J b)*1).ble b7&&(k+1+J a+J b).ble b7&&true&&true&&true)
 (.must true
 (.need (sI .i64 (vj.wrap ((↑i:Int)+1))=sI vj (↑(i+1):Int))
 (.at (aj ae env 32 0 [.mp 1 0,.fn (V2 51) [] [.mp 1 0],.p (.ps l.length 8 (aa l)),sI .i64 (↑l.length:Int),sI .i64 (↑(i+1):Int)] ([.dead,.ac [.os (some 2) (k+1+J a+J b) 1 (X++[.sc (.int .u8 (V8.wrap op))]++Q a++Q b)],.tok]) 1 130)))))))))
 (.need (sI .i64 (vj.wrap ((↑i:Int)+1))=sI vj (↑(i+1):Int))
 (.at (aj ae env 32 0 [.mp 1 0,.fn (V2 51) [] [.mp 1 0],.p (.ps l.length 8 (aa l)),sI .i64 (↑l.length:Int),sI .i64 (↑(i+1):Int)] ([.dead,.ac [.os (some 2) (k+1) 1 (X++[.sc (.int .u8 (V8.wrap op))])],.tok]) 1 130)))))))))))))))))))))))))
 (.out (.ret (.os (some 1) k 1 X) [.dead,.tok])))
theorem CD (l:List Ins) (k:Nat) (X:List PV) (i:Nat) (op r a b nn:Int) (tg:List Int) (ll:List Ins) (le:List Ins) (al:Int) (st:Bool) (J:aaa) (J':aaa) (Q:aab) (Q':aab) (JJ:List PV→Nat) (QQ:List PV→List PV):grow ae env (Np l k X i op r a b nn tg ll le al st J J' Q Q' JJ QQ) 1000000 true (aj ae env 32 0 ([AV.mp 1 0,AV.fn (V2 51) [] [AV.mp 1 0],aL l,sI vj (↑l.length:Int),sI vj (↑i:Int)]) ([aH.dead,aH.ac [AV.os (Option.some 2) k 1 X],aH.tok]) 1 130) P1 atEnd=bP l k X i op r a b nn tg ll le al st J J' Q Q' JJ QQ:=by kernel_rfl
def Nq (l:List Ins) (k:Nat) (X:List PV) (i:Nat) (j:Nat) (op r a b nn:Int) (tg:List Int) (ll:List Ins) (le:List Ins) (t:Int) (J:aaa) (Q:aab):gQ:=pY dY (R5 l k X i j op r a b nn tg ll le t J Q) [(32,0),(32,17)] [(32,0,18)] [(32,38,0),(32,38,1),(51,0,0)] (R4 l k X i j op r a b nn tg ll le t J Q)
def P2:Sc:= .fin
def A7 (l:List Ins) (k:Nat) (X:List PV) (i:Nat) (j:Nat) (op r a b nn:Int) (tg:List Int) (ll:List Ins) (le:List Ins) (t:Int) (J:aaa) (Q:aab):aN:=
 (.test (decide ((↑j:Int)<(↑tg.length:Int)))
 (.must (eW (↑j:Int) tg.length&&true&&true)
 (.must (isInt VO (bA (bW VO tg) (cE j*1))&&true)
 (.need (sI .u32 (aS (bA (bW VO tg) (cE j*1)))=sI VO t)
 (.call ⟨35,[sI .u32 t],[],.p (.ps (J t) 1 (Q t)),[]⟩
 (.must (((k+J t)*1).ble b7&&(k+J t).ble b7&&true&&true&&true)
 (.must true
 (.need (sI .i64 (vj.wrap ((↑j:Int)+1))=sI vj (↑(j+1):Int))
 (.at (aj ae env 32 17 [.mp 1 0,.fn (V2 51) [] [.mp 1 0],.mp 2 0,.p (.ps l.length 8 (aa l)),sI .i64 (↑l.length:Int),sI .i64 (↑i:Int),.p (.ps tg.length 1 (bW VO tg)),sI .i64 (↑tg.length:Int),sI .i64 (↑(j+1):Int)] ([.dead,.ac [.os (some 3) (k+J t) 1 (X++Q t)],.ac [sI .i64 op,sI .i64 r,sI .u32 a,sI .u32 b,sI .i32 nn,.p (.ps tg.length 1 (bW VO tg)),.p (.ps ll.length 8 (aa ll)),.p (.ps le.length 8 (aa le))],.tok]) 1 130)))))))))
 (.call ⟨35,[sI .u32 a],[],.p (.ps (J a) 1 (Q a)),[]⟩
 (.must (((k+J a)*1).ble b7&&(k+J a).ble b7&&true&&true&&true)
 (.must true
 (.need (sI .i64 (vj.wrap ((↑i:Int)+1))=sI vj (↑(i+1):Int))
 (.at (aj ae env 32 0 [.mp 1 0,.fn (V2 51) [] [.mp 1 0],.p (.ps l.length 8 (aa l)),sI .i64 (↑l.length:Int),sI .i64 (↑(i+1):Int)] ([.dead,.ac [.os (some 2) (k+J a) 1 (X++Q a)],.tok]) 1 130)))))))
theorem CE (l:List Ins) (k:Nat) (X:List PV) (i:Nat) (j:Nat) (op r a b nn:Int) (tg:List Int) (ll:List Ins) (le:List Ins) (t:Int) (J:aaa) (Q:aab):grow ae env (Nq l k X i j op r a b nn tg ll le t J Q) 1000000 true (aj ae env 32 17 ([AV.mp 1 0,AV.fn (V2 51) [] [AV.mp 1 0],AV.mp 2 0,aL l,sI vj (↑l.length:Int),sI vj (↑i:Int),AV.p (PV.ps tg.length 1 (bW VO tg)),sI vj (↑tg.length:Int),sI vj (↑j:Int)]) ([aH.dead,aH.ac [AV.os (Option.some 3) k 1 X],aH.ac [sI vj op,sI vj r,sI VO a,sI VO b,sI V9 nn,AV.p (PV.ps tg.length 1 (bW VO tg)),aL ll,aL le],aH.tok]) 1 130) P2 atEnd=A7 l k X i j op r a b nn tg ll le t J Q:=by kernel_rfl
def A8 (l:List Ins):Prop:= ∀X:List PV,X.length+20*dL l≤1000000000→aG ae env 32 [.os (some 0) X.length 1 X,aL l] [.tok] (.os (some 1) (X.length+jL (aa l)) 1 (X++qL (aa l))) [.dead,.tok]
theorem A8.to {l:List Ins} (h:A8 l) {n:Nat} {X:List PV} (hn:n=X.length) (hX:X.length+20*dL l≤1000000000):aG ae env 32 [.os (some 0) n 1 X,aL l] [.tok] (.os (some 1) (n+jL (aa l)) 1 (X++qL (aa l))) [.dead,.tok]:=by subst hn;exact h X hX
noncomputable abbrev FY (l:List Ins) (X:List PV) (i n:Nat):bB:=aj ae env 32 0 [.mp 1 0,.fn (.func 51) [] [.mp 1 0],aL l,sI .i64 l.length,sI .i64 i] [.dead,.ac [.os (some 2) n 1 X],.tok] 1 130
theorem lq {l:List Ins} {X Y:List PV} {i n:Nat} {o:Out} (h:X=Y) (hn:n=Y.length) (k:dK ae env (FY l Y i Y.length) o):dK ae env (FY l X i n) o:=by subst h;subst hn;exact k
theorem KO {l:List Ins} {i:Nat} {op r a b nn:Int} {tg:List Int} {ll le:List Ins} {o:Out} (hi:i<1000000000) (ha:0≤a∧a<4294967296) (ht : ∀t∈tg,0≤t∧t<4294967296) (hl:tg.length≤1000000) : ∀(n j:Nat) (X:List PV),j+n=tg.length→X.length+5*n≤1000000000 →
  dK ae env (FY l (X++(bt ((tg.drop j).flatMap fun t=>pU 4 t.toNat)++qU a)) (i+1) (X++(bt ((tg.drop j).flatMap fun t=>pU 4 t.toNat)++qU a)).length) o →
  dK ae env (aj ae env 32 17 [.mp 1 0,.fn (.func 51) [] [.mp 1 0],.mp 2 0,aL l,sI .i64 l.length,sI .i64 i,.p (.ps tg.length 1 (bW .u32 tg)),sI .i64 tg.length,sI .i64 j] [.dead,.ac [.os (some 3) X.length 1 X],.ac [sI .i64 op,sI .i64 r,sI .u32 a,sI .u32 b,sI .i32 nn,.p (.ps tg.length 1 (bW .u32 tg)),aL ll,aL le],.tok] 1 130) o:=by
 have cY:b7=70368744177664:=rfl
 have UQ:=Co a
 have Uo:(qU a).length=jU a:=dO _
 have wi:vj.wrap ((i:Int)+1)=((i+1:Nat):Int):=by rw[aX (by omega) (by omega)];rfl
 intro n
 induction n with
 |zero=>
  intro j X hj hX hg
  have hd:decide ((j:Int)<(tg.length:Int))=false:=decide_eq_false (by omega)
  refine aC cV (CE l X.length X i j op r a b nn tg ll le 0 jU qU) ?_
  simp only[A7,ct,aN.ok,hd,cY,V6,dv,and_true,rh,false_implies,true_implies,true_and,wi]
  refine⟨dg ha,⟨by omega,by omega⟩,lq ?_ ?_ hg⟩
  · rw[WK (by omega)];simp[bt]
  · rw[WK (by omega)];simp[bt,Uo]
 |succ n ih=>
  intro j X hj hX hg
  have hjl:j<tg.length:=by omega
  have hd:decide ((j:Int)<(tg.length:Int))=true:=decide_eq_true (by omega)
  have Bu:=Co tg[j]
  have Up:(qU tg[j]).length=jU tg[j]:=dO _
  have w:vj.wrap ((j:Int)+1)=((j+1:Nat):Int):=by rw[aX (by omega) (by omega)];rfl
  have e:(X++qU tg[j])++(bt ((tg.drop (j+1)).flatMap fun t=>pU 4 t.toNat)++qU a)=X++(bt ((tg.drop j).flatMap fun t=>pU 4 t.toNat)++qU a):=by
   rw[WL hjl,List.flatMap_cons,zx]
   simp[qU]
  have k:=ih (j+1) (X++qU tg[j]) (by omega) (by rw[ei];omega) (by rw[e];exact hg)
  have hin:eW (j:Int) tg.length=true:=by simp only[eW,dv,decide_eq_true_eq];omega
  refine aC cV (CE l X.length X i j op r a b nn tg ll le tg[j] jU qU) ?_
  simp only[A7,ct,aN.ok,hd,cY,V6,dv,and_true,true_and,Wa,false_implies,true_implies,hin,V5,Kj hjl,isInt,aS,w,beq_self_eq_true]
  refine⟨dg (ht _ (fw hjl)),⟨by omega,by omega⟩,?_⟩
  rw[ei,Up] at k
  exact k
theorem IW {op:Int} (h:gh op=true) (fS : ¬op=17):op=12∨op=13∨op=16∨op=32∨op=33∨op=34∨op=35∨op=36:=by
 have:=lO.1 h
 omega
set_option maxHeartbeats 8000000 in
theorem IX {l:List Ins} {i:Nat} {op r a b nn:Int} {tg:List Int} {ll le:List Ins} {X:List PV} {o:Out} (hg:l[i]? = some (.mk op r a b nn tg ll le)) (hi:i<1000000000)
  (hw:AQ (.mk op r a b nn tg ll le)) (hX:X.length+20*jh (.mk op r a b nn tg ll le)≤1000000000) (hc:jh (.mk op r a b nn tg ll le)≤1000000) (h1:A8 ll) (h2:A8 le)
  (k:dK ae env (FY l (X++bt (gK (.mk op r a b nn tg ll le))) (i+1) (X++bt (gK (.mk op r a b nn tg ll le))).length) o):dK ae env (FY l X i X.length) o:=by
 have cY:b7=70368744177664:=rfl
 have CH:i<l.length:=(List.getElem?_eq_some_iff.1 hg).1
 obtain⟨-,-,wa,wb,wn,⟨wt,R7⟩,-,-,-⟩:=hw
 have wa:=AT wa
 have wb:=AT wb
 have wn:=HV wn
 have R7 : ∀t∈tg,0≤t∧t<4294967296:=fun t ht=>AT (R7 t ht)
 simp only[jh] at hc hX
 have k1:jL (aa ll)≤20*dL ll:=by rw[iB];exact mC ll
 have k2:jL (aa le)≤20*dL le:=by rw[iB];exact mC le
 have k3:=Co a
 have k4:=Co b
 have k5:=Ph nn
 have k6:=Co tg.length
 have q1:(qL (aa ll)).length=jL (aa ll):=by rw[jm,iB,dO]
 have q2:(qL (aa le)).length=jL (aa le):=by rw[jm,iB,dO]
 have q3:(qU a).length=jU a:=dO _
 have q4:(qU b).length=jU b:=dO _
 have q5:(qS nn).length=jS nn:=dO _
 have q6:(qU tg.length).length=jU tg.length:=dO _
 have hu:VO.wrap (tg.length:Int)=tg.length:=zm (by omega) (by omega)
 have hd:decide ((i:Int)<(l.length:Int))=true:=decide_eq_true (by omega)
 have hin:eW (i:Int) l.length=true:=by simp only[eW,dv,decide_eq_true_eq];omega
 have w:vj.wrap ((i:Int)+1)=((i+1:Nat):Int):=by rw[aX (by omega) (by omega)];rfl
 obtain⟨c0,c1,c2,c3,c4,c5,c6,c7⟩:=wX hg
 have c2:(aa l).getD (i*8+1+1) .eJ = .sc (.int .u32 a):=c2
 have c3:(aa l).getD (i*8+1+1+1) .eJ = .sc (.int .u32 b):=c3
 have c4:(aa l).getD (i*8+1+1+1+1) .eJ = .sc (.int .i32 nn):=c4
 have c5:(aa l).getD (i*8+1+1+1+1+1) .eJ = .ps tg.length 1 (bW .u32 tg):=c5
 have c6:(aa l).getD (i*8+1+1+1+1+1+1) .eJ = .ps ll.length 8 (aa ll):=c6
 have c7:(aa l).getD (i*8+1+1+1+1+1+1+1) .eJ = .ps le.length 8 (aa le):=c7
 have cb:PV.sc (.int .u8 (V8.wrap op)) = .sc (.int .u8 ((op%256).toNat:Int)):=by rw[fL]
 have a1:=qb op
 have hk:X.length+5≤1000000000:=by omega
 refine aC cV (CD l X.length X i op r a b nn tg ll le (xd op) (dG op) jU jS qU qS jL qL) ?_
 cases cR:dx op with
 |true=>
  have hop:(op==2)=true∨((op==2)=false∧(op==3)=true)∨((op==2)=false∧(op==3)=false∧(op==4)=true):=by
   rcases dV.1 cR with rfl | rfl | rfl
   · exact .inl rfl
   · exact .inr (.inl ⟨rfl,rfl⟩)
   · exact .inr (.inr ⟨rfl,rfl,rfl⟩)
  by_cases hr:r=1
  · by_cases hle:le.length=0
    · have he:decide ((le.length:Int)>0)=false:=decide_eq_false (by omega)
      have dr:(r==1)=true:=by rw[hr];rfl
      rcases hop with o2 | ⟨o2,o3⟩ | ⟨o2,o3,o4⟩
      · simp only[bP,aZ,aQ,bh,ct,aN.ok,hd,cY,V6,dv,and_true,true_and,Wa,rh,false_implies,true_implies,hin,V5,c0,c1,c2,c3,c4,c5,c6,c7,isInt,cW,aS,aJ,cH,aF,w,beq_self_eq_true,cb,hu,Wk,o2,he,dr]
        exact⟨rfl,⟨by omega,by omega⟩,h1.to (by simp only[ei,pa,VS]) (by simp only[ei,pa,VS];omega),⟨by omega,by omega⟩,⟨by omega,by omega⟩,lq (by simp[gK,cR,hle,hr,bt,jm]) (by simp[gK,cR,hle,hr,bt,iB];omega) k⟩
      · simp only[bP,aZ,aQ,bh,ct,aN.ok,hd,cY,V6,dv,and_true,true_and,Wa,rh,false_implies,true_implies,hin,V5,c0,c1,c2,c3,c4,c5,c6,c7,isInt,cW,aS,aJ,cH,aF,w,beq_self_eq_true,cb,hu,Wk,o2,o3,he,dr]
        exact⟨rfl,⟨by omega,by omega⟩,h1.to (by simp only[ei,pa,VS]) (by simp only[ei,pa,VS];omega),⟨by omega,by omega⟩,⟨by omega,by omega⟩,lq (by simp[gK,cR,hle,hr,bt,jm]) (by simp[gK,cR,hle,hr,bt,iB];omega) k⟩
      · simp only[bP,aZ,aQ,bh,ct,aN.ok,hd,cY,V6,dv,and_true,true_and,Wa,rh,false_implies,true_implies,hin,V5,c0,c1,c2,c3,c4,c5,c6,c7,isInt,cW,aS,aJ,cH,aF,w,beq_self_eq_true,cb,hu,Wk,o2,o3,o4,he,dr]
        exact⟨rfl,⟨by omega,by omega⟩,h1.to (by simp only[ei,pa,VS]) (by simp only[ei,pa,VS];omega),⟨by omega,by omega⟩,⟨by omega,by omega⟩,lq (by simp[gK,cR,hle,hr,bt,jm]) (by simp[gK,cR,hle,hr,bt,iB];omega) k⟩
    · have he:decide ((le.length:Int)>0)=true:=decide_eq_true (by omega)
      have dr:(r==1)=true:=by rw[hr];rfl
      rcases hop with o2 | ⟨o2,o3⟩ | ⟨o2,o3,o4⟩
      · simp only[bP,aZ,aQ,bh,ct,aN.ok,hd,cY,V6,dv,and_true,true_and,Wa,rh,false_implies,true_implies,hin,V5,c0,c1,c2,c3,c4,c5,c6,c7,isInt,cW,aS,aJ,cH,aF,w,beq_self_eq_true,cb,hu,Wk,o2,he,dr]
        exact⟨rfl,⟨by omega,by omega⟩,h1.to (by simp only[ei,pa,VS]) (by simp only[ei,pa,VS];omega),⟨by omega,by omega⟩,h2.to (by simp only[ei,pa,VS,q1]) (by simp only[ei,pa,VS,q1];omega),⟨by omega,by omega⟩,⟨by omega,by omega⟩,lq (by simp[gK,cR,hle,hr,bt,jm]) (by simp[gK,cR,hle,hr,bt,iB];omega) k⟩
      · simp only[bP,aZ,aQ,bh,ct,aN.ok,hd,cY,V6,dv,and_true,true_and,Wa,rh,false_implies,true_implies,hin,V5,c0,c1,c2,c3,c4,c5,c6,c7,isInt,cW,aS,aJ,cH,aF,w,beq_self_eq_true,cb,hu,Wk,o2,o3,he,dr]
        exact⟨rfl,⟨by omega,by omega⟩,h1.to (by simp only[ei,pa,VS]) (by simp only[ei,pa,VS];omega),⟨by omega,by omega⟩,h2.to (by simp only[ei,pa,VS,q1]) (by simp only[ei,pa,VS,q1];omega),⟨by omega,by omega⟩,⟨by omega,by omega⟩,lq (by simp[gK,cR,hle,hr,bt,jm]) (by simp[gK,cR,hle,hr,bt,iB];omega) k⟩
      · simp only[bP,aZ,aQ,bh,ct,aN.ok,hd,cY,V6,dv,and_true,true_and,Wa,rh,false_implies,true_implies,hin,V5,c0,c1,c2,c3,c4,c5,c6,c7,isInt,cW,aS,aJ,cH,aF,w,beq_self_eq_true,cb,hu,Wk,o2,o3,o4,he,dr]
        exact⟨rfl,⟨by omega,by omega⟩,h1.to (by simp only[ei,pa,VS]) (by simp only[ei,pa,VS];omega),⟨by omega,by omega⟩,h2.to (by simp only[ei,pa,VS,q1]) (by simp only[ei,pa,VS,q1];omega),⟨by omega,by omega⟩,⟨by omega,by omega⟩,lq (by simp[gK,cR,hle,hr,bt,jm]) (by simp[gK,cR,hle,hr,bt,iB];omega) k⟩
  · have dr:(r==1)=false:=by simpa using hr
    by_cases hle:le.length=0
    · have he:decide ((le.length:Int)>0)=false:=decide_eq_false (by omega)
      rcases hop with o2 | ⟨o2,o3⟩ | ⟨o2,o3,o4⟩
      · simp only[bP,aZ,aQ,bh,ct,aN.ok,hd,cY,V6,dv,and_true,true_and,Wa,rh,false_implies,true_implies,hin,V5,c0,c1,c2,c3,c4,c5,c6,c7,isInt,cW,aS,aJ,cH,aF,w,beq_self_eq_true,cb,hu,Wk,o2,he,dr]
        exact⟨rfl,⟨by omega,by omega⟩,h1.to (by simp only[ei,pa,VS]) (by simp only[ei,pa,VS];omega),⟨by omega,by omega⟩,⟨by omega,by omega⟩,lq (by simp[gK,cR,hle,hr,bt,jm]) (by simp[gK,cR,hle,hr,bt,iB];omega) k⟩
      · simp only[bP,aZ,aQ,bh,ct,aN.ok,hd,cY,V6,dv,and_true,true_and,Wa,rh,false_implies,true_implies,hin,V5,c0,c1,c2,c3,c4,c5,c6,c7,isInt,cW,aS,aJ,cH,aF,w,beq_self_eq_true,cb,hu,Wk,o2,o3,he,dr]
        exact⟨rfl,⟨by omega,by omega⟩,h1.to (by simp only[ei,pa,VS]) (by simp only[ei,pa,VS];omega),⟨by omega,by omega⟩,⟨by omega,by omega⟩,lq (by simp[gK,cR,hle,hr,bt,jm]) (by simp[gK,cR,hle,hr,bt,iB];omega) k⟩
      · simp only[bP,aZ,aQ,bh,ct,aN.ok,hd,cY,V6,dv,and_true,true_and,Wa,rh,false_implies,true_implies,hin,V5,c0,c1,c2,c3,c4,c5,c6,c7,isInt,cW,aS,aJ,cH,aF,w,beq_self_eq_true,cb,hu,Wk,o2,o3,o4,he,dr]
        exact⟨rfl,⟨by omega,by omega⟩,h1.to (by simp only[ei,pa,VS]) (by simp only[ei,pa,VS];omega),⟨by omega,by omega⟩,⟨by omega,by omega⟩,lq (by simp[gK,cR,hle,hr,bt,jm]) (by simp[gK,cR,hle,hr,bt,iB];omega) k⟩
    · have he:decide ((le.length:Int)>0)=true:=decide_eq_true (by omega)
      rcases hop with o2 | ⟨o2,o3⟩ | ⟨o2,o3,o4⟩
      · simp only[bP,aZ,aQ,bh,ct,aN.ok,hd,cY,V6,dv,and_true,true_and,Wa,rh,false_implies,true_implies,hin,V5,c0,c1,c2,c3,c4,c5,c6,c7,isInt,cW,aS,aJ,cH,aF,w,beq_self_eq_true,cb,hu,Wk,o2,he,dr]
        exact⟨rfl,⟨by omega,by omega⟩,h1.to (by simp only[ei,pa,VS]) (by simp only[ei,pa,VS];omega),⟨by omega,by omega⟩,h2.to (by simp only[ei,pa,VS,q1]) (by simp only[ei,pa,VS,q1];omega),⟨by omega,by omega⟩,⟨by omega,by omega⟩,lq (by simp[gK,cR,hle,hr,bt,jm]) (by simp[gK,cR,hle,hr,bt,iB];omega) k⟩
      · simp only[bP,aZ,aQ,bh,ct,aN.ok,hd,cY,V6,dv,and_true,true_and,Wa,rh,false_implies,true_implies,hin,V5,c0,c1,c2,c3,c4,c5,c6,c7,isInt,cW,aS,aJ,cH,aF,w,beq_self_eq_true,cb,hu,Wk,o2,o3,he,dr]
        exact⟨rfl,⟨by omega,by omega⟩,h1.to (by simp only[ei,pa,VS]) (by simp only[ei,pa,VS];omega),⟨by omega,by omega⟩,h2.to (by simp only[ei,pa,VS,q1]) (by simp only[ei,pa,VS,q1];omega),⟨by omega,by omega⟩,⟨by omega,by omega⟩,lq (by simp[gK,cR,hle,hr,bt,jm]) (by simp[gK,cR,hle,hr,bt,iB];omega) k⟩
      · simp only[bP,aZ,aQ,bh,ct,aN.ok,hd,cY,V6,dv,and_true,true_and,Wa,rh,false_implies,true_implies,hin,V5,c0,c1,c2,c3,c4,c5,c6,c7,isInt,cW,aS,aJ,cH,aF,w,beq_self_eq_true,cb,hu,Wk,o2,o3,o4,he,dr]
        exact⟨rfl,⟨by omega,by omega⟩,h1.to (by simp only[ei,pa,VS]) (by simp only[ei,pa,VS];omega),⟨by omega,by omega⟩,h2.to (by simp only[ei,pa,VS,q1]) (by simp only[ei,pa,VS,q1];omega),⟨by omega,by omega⟩,⟨by omega,by omega⟩,lq (by simp[gK,cR,hle,hr,bt,jm]) (by simp[gK,cR,hle,hr,bt,iB];omega) k⟩
 |false=>
  have n2:(op==2)=false:=by cases h:op==2 with | false=>rfl | true=>rw[dV.2 (.inl (eq_of_beq h))] at cR;cases cR
  have n3:(op==3)=false:=by cases h:op==3 with | false=>rfl | true=>rw[dV.2 (.inr (.inl (eq_of_beq h)))] at cR;cases cR
  have n4:(op==4)=false:=by cases h:op==4 with | false=>rfl | true=>rw[dV.2 (.inr (.inr (eq_of_beq h)))] at cR;cases cR
  by_cases fS:op=17
  · have Bc:(op==17)=true:=by rw[fS];rfl
    have B1:(X.length+1)*1≤70368744177664∧X.length+1≤70368744177664:=⟨by omega,by omega⟩
    simp only[bP,aZ,aQ,bh,ct,aN.ok,hd,cY,V6,dv,and_true,true_and,Wa,rh,false_implies,true_implies,hin,V5,c0,c1,c2,c3,c4,c5,c6,c7,isInt,cW,aS,aJ,cH,aF,w,beq_self_eq_true,cb,hu,Wk,n2,n3,n4,show(op==12)=false from by rw[fS];rfl,show(op==13)=false from by rw[fS];rfl,show(op==16)=false from by rw[fS];rfl,show(op==32)=false from by rw[fS];rfl,show(op==33)=false from by rw[fS];rfl,show(op==34)=false from by rw[fS];rfl,show(op==35)=false from by rw[fS];rfl,show(op==36)=false from by rw[fS];rfl,Bc]
    exact⟨rfl,B1,dg wa,⟨by omega,by omega⟩,⟨by omega,by omega⟩,lq (by simp[gK,show dx 17=false from rfl,show dG 17=false from rfl,fS,bt,qU]) (by simp[gK,show dx 17=false from rfl,show dG 17=false from rfl,fS,bt,jU];omega) k⟩
  · have Bc:(op==17)=false:=by simpa using fS
    cases j6:gh op with
    |true=>
     have hop:=IW j6 fS
     have fin:=lq (i:=i+1) (n:=X.length+1+jU a) (X:=X++[.sc (.int .u8 ((op%256).toNat:Int))]++qU a) (by simp[gK,cR,fS,j6,bt,qU]) (by simp[gK,cR,fS,j6,bt,jU];omega) k
     have B:(X.length+1+jU a)*1≤70368744177664∧X.length+1+jU a≤70368744177664:=⟨by omega,by omega⟩
     have B1:(X.length+1)*1≤70368744177664∧X.length+1≤70368744177664:=⟨by omega,by omega⟩
     clear k cb
     rcases hop with rfl | rfl | rfl | rfl | rfl | rfl | rfl | rfl
     · simp only[bP,aZ,aQ,bh,ct,aN.ok,hd,cY,V6,dv,and_true,true_and,Wa,rh,false_implies,true_implies,hin,V5,c0,c1,c2,c3,c4,c5,c6,c7,isInt,cW,aS,aJ,cH,aF,w,beq_self_eq_true,fL,hu,Wk]
       exact⟨rfl,B1,dg wa,B,fin⟩
     · simp only[bP,aZ,aQ,bh,ct,aN.ok,hd,cY,V6,dv,and_true,true_and,Wa,rh,false_implies,true_implies,hin,V5,c0,c1,c2,c3,c4,c5,c6,c7,isInt,cW,aS,aJ,cH,aF,w,beq_self_eq_true,fL,hu,Wk]
       exact⟨rfl,B1,dg wa,B,fin⟩
     · simp only[bP,aZ,aQ,bh,ct,aN.ok,hd,cY,V6,dv,and_true,true_and,Wa,rh,false_implies,true_implies,hin,V5,c0,c1,c2,c3,c4,c5,c6,c7,isInt,cW,aS,aJ,cH,aF,w,beq_self_eq_true,fL,hu,Wk]
       exact⟨rfl,B1,dg wa,B,fin⟩
     · simp only[bP,aZ,aQ,bh,ct,aN.ok,hd,cY,V6,dv,and_true,true_and,Wa,rh,false_implies,true_implies,hin,V5,c0,c1,c2,c3,c4,c5,c6,c7,isInt,cW,aS,aJ,cH,aF,w,beq_self_eq_true,fL,hu,Wk]
       exact⟨rfl,B1,dg wa,B,fin⟩
     · simp only[bP,aZ,aQ,bh,ct,aN.ok,hd,cY,V6,dv,and_true,true_and,Wa,rh,false_implies,true_implies,hin,V5,c0,c1,c2,c3,c4,c5,c6,c7,isInt,cW,aS,aJ,cH,aF,w,beq_self_eq_true,fL,hu,Wk]
       exact⟨rfl,B1,dg wa,B,fin⟩
     · simp only[bP,aZ,aQ,bh,ct,aN.ok,hd,cY,V6,dv,and_true,true_and,Wa,rh,false_implies,true_implies,hin,V5,c0,c1,c2,c3,c4,c5,c6,c7,isInt,cW,aS,aJ,cH,aF,w,beq_self_eq_true,fL,hu,Wk]
       exact⟨rfl,B1,dg wa,B,fin⟩
     · simp only[bP,aZ,aQ,bh,ct,aN.ok,hd,cY,V6,dv,and_true,true_and,Wa,rh,false_implies,true_implies,hin,V5,c0,c1,c2,c3,c4,c5,c6,c7,isInt,cW,aS,aJ,cH,aF,w,beq_self_eq_true,fL,hu,Wk]
       exact⟨rfl,B1,dg wa,B,fin⟩
     · simp only[bP,aZ,aQ,bh,ct,aN.ok,hd,cY,V6,dv,and_true,true_and,Wa,rh,false_implies,true_implies,hin,V5,c0,c1,c2,c3,c4,c5,c6,c7,isInt,cW,aS,aJ,cH,aF,w,beq_self_eq_true,fL,hu,Wk]
       exact⟨rfl,B1,dg wa,B,fin⟩
    |false=>
     have m : ∀c:Int,gh c=true→(op==c)=false:=fun c hc=>by cases h:op==c with | false=>rfl | true=>rw[eq_of_beq h,hc] at j6;cases j6
     have B1:(X.length+1)*1≤70368744177664∧X.length+1≤70368744177664:=⟨by omega,by omega⟩
     by_cases j7:op=14
     · have Bd:(op==14)=true:=by rw[j7];rfl
       simp only[bP,aZ,aQ,bh,ct,aN.ok,hd,cY,V6,dv,and_true,true_and,Wa,rh,false_implies,true_implies,hin,V5,c0,c1,c2,c3,c4,c5,c6,c7,isInt,cW,aS,aJ,cH,aF,w,beq_self_eq_true,cb,hu,Wk,n2,n3,n4,m 12 rfl,m 13 rfl,m 16 rfl,m 32 rfl,m 33 rfl,m 34 rfl,m 35 rfl,m 36 rfl,Bc,Bd]
       refine⟨rfl,B1,dg ⟨by omega,by omega⟩,⟨by omega,by omega⟩,?_⟩
       have k2:=KO (l:=l) (i:=i) (op:=op) (r:=r) (b:=b) (nn:=nn) (ll:=ll) (le:=le) (o:=o) hi wa R7 (by omega) tg.length 0 (X++[.sc (.int .u8 ((op%256).toNat:Int))]++qU tg.length) (by omega) (by simp only[ei,pa,VS,q6];omega)
        (lq (by simp[gK,show dx 14=false from rfl,show gh 14=false from rfl,show dG 14=false from rfl,j7,bt,qU]) (by simp[gK,show dx 14=false from rfl,show gh 14=false from rfl,show dG 14=false from rfl,j7,bt,qU]) k)
       simp only[ei,pa,VS,q6] at k2
       exact k2
     · have Bd:(op==14)=false:=by simpa using j7
       by_cases h63:op=63
       · have F7:(op==63)=true:=by rw[h63];rfl
         simp only[bP,aZ,aQ,bh,ct,aN.ok,hd,cY,V6,dv,and_true,true_and,Wa,rh,false_implies,true_implies,hin,V5,c0,c1,c2,c3,c4,c5,c6,c7,isInt,cW,aS,aJ,cH,aF,w,beq_self_eq_true,cb,hu,Wk,n2,n3,n4,m 12 rfl,m 13 rfl,m 16 rfl,m 32 rfl,m 33 rfl,m 34 rfl,m 35 rfl,m 36 rfl,Bc,Bd,F7]
         exact⟨rfl,B1,⟨by omega,by omega⟩,lq (by simp[gK,show dx 63=false from rfl,show gh 63=false from rfl,show dG 63=false from rfl,h63,bt]) (by simp[gK,show dx 63=false from rfl,show gh 63=false from rfl,show dG 63=false from rfl,h63,bt]) k⟩
       · have F7:(op==63)=false:=by simpa using h63
         by_cases FR:op=64
         · have Jm:(op==64)=true:=by rw[FR];rfl
           simp only[bP,aZ,aQ,bh,ct,aN.ok,hd,cY,V6,dv,and_true,true_and,Wa,rh,false_implies,true_implies,hin,V5,c0,c1,c2,c3,c4,c5,c6,c7,isInt,cW,aS,aJ,cH,aF,w,beq_self_eq_true,cb,hu,Wk,n2,n3,n4,m 12 rfl,m 13 rfl,m 16 rfl,m 32 rfl,m 33 rfl,m 34 rfl,m 35 rfl,m 36 rfl,Bc,Bd,F7,Jm]
           exact⟨rfl,B1,⟨by omega,by omega⟩,lq (by simp[gK,show dx 64=false from rfl,show gh 64=false from rfl,show dG 64=false from rfl,FR,bt]) (by simp[gK,show dx 64=false from rfl,show gh 64=false from rfl,show dG 64=false from rfl,FR,bt]) k⟩
         · have Jm:(op==64)=false:=by simpa using FR
           by_cases qg:op=65
           · have Jn:(op==65)=true:=by rw[qg];rfl
             simp only[bP,aZ,aQ,bh,ct,aN.ok,hd,cY,V6,dv,and_true,true_and,Wa,rh,false_implies,true_implies,hin,V5,c0,c1,c2,c3,c4,c5,c6,c7,isInt,cW,aS,aJ,cH,aF,w,beq_self_eq_true,cb,hu,Wk,n2,n3,n4,m 12 rfl,m 13 rfl,m 16 rfl,m 32 rfl,m 33 rfl,m 34 rfl,m 35 rfl,m 36 rfl,Bc,Bd,F7,Jm,Jn]
             exact⟨rfl,B1,FK wn,⟨by omega,by omega⟩,lq (by simp[gK,show dx 65=false from rfl,show gh 65=false from rfl,show dG 65=false from rfl,qg,bt,qS]) (by simp[gK,show dx 65=false from rfl,show gh 65=false from rfl,show dG 65=false from rfl,qg,bt,jS];omega) k⟩
           · have Jn:(op==65)=false:=by simpa using qg
             cases hst:dG op with
             |true=>
              rw[hst] at a1
              simp only[bP,aZ,aQ,bh,ct,aN.ok,hd,cY,V6,dv,and_true,true_and,Wa,rh,false_implies,true_implies,hin,V5,c0,c1,c2,c3,c4,c5,c6,c7,isInt,cW,aS,aJ,cH,aF,w,beq_self_eq_true,cb,hu,Wk,n2,n3,n4,m 12 rfl,m 13 rfl,m 16 rfl,m 32 rfl,m 33 rfl,m 34 rfl,m 35 rfl,m 36 rfl,Bc,Bd,F7,Jm,Jn]
              exact⟨rfl,B1,a1,dg wa,⟨by omega,by omega⟩,dg wb,⟨by omega,by omega⟩,lq (by simp[gK,cR,fS,j6,j7,h63,FR,qg,hst,bt,qU]) (by simp[gK,cR,fS,j6,j7,h63,FR,qg,hst,bt,jU];omega) k⟩
             |false=>
              rw[hst] at a1
              simp only[bP,aZ,aQ,bh,ct,aN.ok,hd,cY,V6,dv,and_true,true_and,Wa,rh,false_implies,true_implies,hin,V5,c0,c1,c2,c3,c4,c5,c6,c7,isInt,cW,aS,aJ,cH,aF,w,beq_self_eq_true,cb,hu,Wk,n2,n3,n4,m 12 rfl,m 13 rfl,m 16 rfl,m 32 rfl,m 33 rfl,m 34 rfl,m 35 rfl,m 36 rfl,Bc,Bd,F7,Jm,Jn]
              exact⟨rfl,B1,a1,lq (by simp[gK,cR,fS,j6,j7,h63,FR,qg,hst,bt]) (by simp[gK,cR,fS,j6,j7,h63,FR,qg,hst,bt]) k⟩
theorem IY {l:List Ins} (hw:tA l) (hc:dL l≤1000000) (IH : ∀x∈l,A8 x.l∧A8 x.e) : ∀(n i:Nat) (X:List PV),i+n=l.length→X.length+20*dL (l.drop i)≤1000000000 →
  dK ae env (FY l X i X.length) (.ret (.os (some 1) (X++bt (fc (l.drop i))).length 1 (X++bt (fc (l.drop i)))) [.dead,.tok]):=by
 have LK:=nT l
 intro n
 induction n with
 |zero=>
  intro i X hi hX
  have hd:decide ((i:Int)<(l.length:Int))=false:=decide_eq_false (by omega)
  refine aC cV (CD l X.length X i 0 0 0 0 0 [] [] [] 0 false jU jS qU qS jL qL) ?_
  simp only[bP,aZ,aQ,bh,ct,aN.ok,hd,and_true,rh,false_implies,true_implies,true_and]
  rw[WK (by omega)]
  exact RM (by simp[fc,bt]) (by simp[fc,bt]) rfl
 |succ n ih=>
  intro i X hi hX
  have CH:i<l.length:=by omega
  have hmem:l[i]∈l:=fw CH
  have hcx:=lK hmem
  have hb:=Ey l[i]
  have hcd:dL (l.drop i)=jh l[i]+dL (l.drop (i+1)):=by rw[WL CH,dL]
  have k:=ih (i+1) (X++bt (gK l[i])) (by omega) (by rw[ei,dO];omega)
  rw[show(X++bt (gK l[i]))++bt (fc (l.drop (i+1)))=X++bt (fc (l.drop i)) by rw[Ig CH,zx,List.append_assoc]] at k
  have O3:l[i]? = some l[i]:=List.getElem?_eq_getElem CH
  have Nr:=oL hw hmem
  have KP:=IH l[i] hmem
  generalize l[i]=x at *
  obtain⟨op,r,a,b,nn,tg,ll,le⟩:=x
  exact IX O3 (by omega) Nr (by omega) (by omega) KP.1 KP.2 k
theorem IZ : ∀l:List Ins,tA l→dL l≤1000000→A8 l:=by
 refine J4 fun l IH hw hc X hX=> ?_
 have Uq : ∀x∈l,A8 x.l∧A8 x.e:=fun x hx=>by
  have h2:=oL hw hx
  have h3:=lK hx
  have h4:=IH x hx
  obtain⟨op,r,a,b,nn,tg,ll,le⟩:=x
  simp only[Ins.l,Ins.e,jh,AQ] at h2 h3 h4 ⊢
  exact⟨h4.1 h2.2.2.2.2.2.2.1.2 (by omega),h4.2 h2.2.2.2.2.2.2.2.2 (by omega)⟩
 have k:=IY hw hc Uq l.length 0 X (by omega) (by rw[VR];exact hX)
 rw[VR,ei,dO] at k
 rw[iB,jm]
 refine ak cV (KN l X.length X) ?_
 simp only[IV,aN.ok]
 exact dK.HO (r:=[]) rfl rfl k
theorem KQ {l:List Ins} (hw:tA l) (hc:dL l≤1000000):aG ae env 32 [.os none 0 0 [],aL l] [] (.os (some 1) (fc l).length 1 (bt (fc l))) [.dead,.tok]:=by
 have h:=IZ l hw hc [] (by simp only[VS];omega)
 rw[iB,jm,VS,Nat.zero_add,List.nil_append] at h
 exact aG.qc (Nat.le_refl 1) h
def uC:Env where
 cL:=ue tabs
 wr f d:=(be f 72&&be d 9)||(be f 27&&(be d 10||be d 67||be d 84||be d 197||be d 164||be d 176))
 keep _ _:=none
def FZ:cF:=⟨82,[.p (.sc (.string ⟨#[101,113,122,32,101,113,32,110,101,32,108,116,95,115,32,108,116,95,117,32,103,116,95,115,32,103,116,95,117,32,108,101,95,115,32,108,101,95,117,32,103,101,95,115,32,103,101,95,117]⟩))],[],.p (.ps 11 1 [.sc (.string ⟨#[101,113,122]⟩),.sc (.string ⟨#[101,113]⟩),.sc (.string ⟨#[110,101]⟩),.sc (.string ⟨#[108,116,95,115]⟩),.sc (.string ⟨#[108,116,95,117]⟩),.sc (.string ⟨#[103,116,95,115]⟩),.sc (.string ⟨#[103,116,95,117]⟩),.sc (.string ⟨#[108,101,95,115]⟩),.sc (.string ⟨#[108,101,95,117]⟩),.sc (.string ⟨#[103,101,95,115]⟩),.sc (.string ⟨#[103,101,95,117]⟩)]),[]⟩
theorem R8:aG ae uC FZ.g FZ.args FZ.m FZ.v FZ.m':=fI cV (K:=[]) oI (n:=10000000) (by kernel_rfl)
def Ns:List cF:=FZ::[]
theorem I0:fu ae uC Ns:=gA R8 oI
def F0:cF:=⟨82,[.p (.sc (.string ⟨#[99,108,122,32,99,116,122,32,112,111,112,99,110,116,32,97,100,100,32,115,117,98,32,109,117,108,32,100,105,118,95,115,32,100,105,118,95,117,32,114,101,109,95,115,32,114,101,109,95,117,32,97,110,100,32,111,114,32,120,111,114,32,115,104,108,32,115,104,114,95,115,32,115,104,114,95,117,32,114,111,116,108,32,114,111,116,114]⟩))],[],.p (.ps 18 1 [.sc (.string ⟨#[99,108,122]⟩),.sc (.string ⟨#[99,116,122]⟩),.sc (.string ⟨#[112,111,112,99,110,116]⟩),.sc (.string ⟨#[97,100,100]⟩),.sc (.string ⟨#[115,117,98]⟩),.sc (.string ⟨#[109,117,108]⟩),.sc (.string ⟨#[100,105,118,95,115]⟩),.sc (.string ⟨#[100,105,118,95,117]⟩),.sc (.string ⟨#[114,101,109,95,115]⟩),.sc (.string ⟨#[114,101,109,95,117]⟩),.sc (.string ⟨#[97,110,100]⟩),.sc (.string ⟨#[111,114]⟩),.sc (.string ⟨#[120,111,114]⟩),.sc (.string ⟨#[115,104,108]⟩),.sc (.string ⟨#[115,104,114,95,115]⟩),.sc (.string ⟨#[115,104,114,95,117]⟩),.sc (.string ⟨#[114,111,116,108]⟩),.sc (.string ⟨#[114,111,116,114]⟩)]),[]⟩
theorem R9:aG ae uC F0.g F0.args F0.m F0.v F0.m':=fI cV (K:=Ns) I0 (n:=10000000) (by kernel_rfl)
def Nt:List cF:=F0::Ns
theorem I1:fu ae uC Nt:=gA R9 I0
def F1:cF:=⟨63,[],[],.agg [.p (.sc (.string ⟨#[117,110,114,101,97,99,104,97,98,108,101]⟩)),.p (.sc (.string ⟨#[110,111,112]⟩)),.p (.sc (.string ⟨#[98,108,111,99,107]⟩)),.p (.sc (.string ⟨#[108,111,111,112]⟩)),.p (.sc (.string ⟨#[105,102]⟩)),.p (.sc (.string ⟨#[]⟩)),.p (.sc (.string ⟨#[]⟩)),.p (.sc (.string ⟨#[]⟩)),.p (.sc (.string ⟨#[]⟩)),.p (.sc (.string ⟨#[]⟩)),.p (.sc (.string ⟨#[]⟩)),.p (.sc (.string ⟨#[]⟩)),.p (.sc (.string ⟨#[98,114]⟩)),.p (.sc (.string ⟨#[98,114,95,105,102]⟩)),.p (.sc (.string ⟨#[98,114,95,116,97,98,108,101]⟩)),.p (.sc (.string ⟨#[114,101,116,117,114,110]⟩)),.p (.sc (.string ⟨#[99,97,108,108]⟩)),.p (.sc (.string ⟨#[99,97,108,108,95,105,110,100,105,114,101,99,116]⟩)),.p (.sc (.string ⟨#[]⟩)),.p (.sc (.string ⟨#[]⟩)),.p (.sc (.string ⟨#[]⟩)),.p (.sc (.string ⟨#[]⟩)),.p (.sc (.string ⟨#[]⟩)),.p (.sc (.string ⟨#[]⟩)),.p (.sc (.string ⟨#[]⟩)),.p (.sc (.string ⟨#[]⟩)),.p (.sc (.string ⟨#[100,114,111,112]⟩)),.p (.sc (.string ⟨#[115,101,108,101,99,116]⟩)),.p (.sc (.string ⟨#[]⟩)),.p (.sc (.string ⟨#[]⟩)),.p (.sc (.string ⟨#[]⟩)),.p (.sc (.string ⟨#[]⟩)),.p (.sc (.string ⟨#[108,111,99,97,108,46,103,101,116]⟩)),.p (.sc (.string ⟨#[108,111,99,97,108,46,115,101,116]⟩)),.p (.sc (.string ⟨#[108,111,99,97,108,46,116,101,101]⟩)),.p (.sc (.string ⟨#[103,108,111,98,97,108,46,103,101,116]⟩)),.p (.sc (.string ⟨#[103,108,111,98,97,108,46,115,101,116]⟩)),.p (.sc (.string ⟨#[]⟩)),.p (.sc (.string ⟨#[]⟩)),.p (.sc (.string ⟨#[]⟩)),.p (.sc (.string ⟨#[105,51,50,46,108,111,97,100]⟩)),.p (.sc (.string ⟨#[]⟩)),.p (.sc (.string ⟨#[]⟩)),.p (.sc (.string ⟨#[]⟩)),.p (.sc (.string ⟨#[105,51,50,46,108,111,97,100,56,95,115]⟩)),.p (.sc (.string ⟨#[105,51,50,46,108,111,97,100,56,95,117]⟩)),.p (.sc (.string ⟨#[105,51,50,46,108,111,97,100,49,54,95,115]⟩)),.p (.sc (.string ⟨#[105,51,50,46,108,111,97,100,49,54,95,117]⟩)),.p (.sc (.string ⟨#[]⟩)),.p (.sc (.string ⟨#[]⟩)),.p (.sc (.string ⟨#[]⟩)),.p (.sc (.string ⟨#[]⟩)),.p (.sc (.string ⟨#[]⟩)),.p (.sc (.string ⟨#[]⟩)),.p (.sc (.string ⟨#[105,51,50,46,115,116,111,114,101]⟩)),.p (.sc (.string ⟨#[]⟩)),.p (.sc (.string ⟨#[]⟩)),.p (.sc (.string ⟨#[]⟩)),.p (.sc (.string ⟨#[105,51,50,46,115,116,111,114,101,56]⟩)),.p (.sc (.string ⟨#[105,51,50,46,115,116,111,114,101,49,54]⟩)),.p (.sc (.string ⟨#[]⟩)),.p (.sc (.string ⟨#[]⟩)),.p (.sc (.string ⟨#[]⟩)),.p (.sc (.string ⟨#[109,101,109,111,114,121,46,115,105,122,101]⟩)),.p (.sc (.string ⟨#[109,101,109,111,114,121,46,103,114,111,119]⟩)),.p (.sc (.string ⟨#[105,51,50,46,99,111,110,115,116]⟩)),.p (.sc (.string ⟨#[]⟩)),.p (.sc (.string ⟨#[]⟩)),.p (.sc (.string ⟨#[]⟩)),.p (.sc (.string ⟨#[105,51,50,46,101,113,122]⟩)),.p (.sc (.string ⟨#[105,51,50,46,101,113]⟩)),.p (.sc (.string ⟨#[105,51,50,46,110,101]⟩)),.p (.sc (.string ⟨#[105,51,50,46,108,116,95,115]⟩)),.p (.sc (.string ⟨#[105,51,50,46,108,116,95,117]⟩)),.p (.sc (.string ⟨#[105,51,50,46,103,116,95,115]⟩)),.p (.sc (.string ⟨#[105,51,50,46,103,116,95,117]⟩)),.p (.sc (.string ⟨#[105,51,50,46,108,101,95,115]⟩)),.p (.sc (.string ⟨#[105,51,50,46,108,101,95,117]⟩)),.p (.sc (.string ⟨#[105,51,50,46,103,101,95,115]⟩)),.p (.sc (.string ⟨#[105,51,50,46,103,101,95,117]⟩)),.p (.sc (.string ⟨#[]⟩)),.p (.sc (.string ⟨#[]⟩)),.p (.sc (.string ⟨#[]⟩)),.p (.sc (.string ⟨#[]⟩)),.p (.sc (.string ⟨#[]⟩)),.p (.sc (.string ⟨#[]⟩)),.p (.sc (.string ⟨#[]⟩)),.p (.sc (.string ⟨#[]⟩)),.p (.sc (.string ⟨#[]⟩)),.p (.sc (.string ⟨#[]⟩)),.p (.sc (.string ⟨#[]⟩)),.p (.sc (.string ⟨#[]⟩)),.p (.sc (.string ⟨#[]⟩)),.p (.sc (.string ⟨#[]⟩)),.p (.sc (.string ⟨#[]⟩)),.p (.sc (.string ⟨#[]⟩)),.p (.sc (.string ⟨#[]⟩)),.p (.sc (.string ⟨#[]⟩)),.p (.sc (.string ⟨#[]⟩)),.p (.sc (.string ⟨#[]⟩)),.p (.sc (.string ⟨#[]⟩)),.p (.sc (.string ⟨#[]⟩)),.p (.sc (.string ⟨#[]⟩)),.p (.sc (.string ⟨#[105,51,50,46,99,108,122]⟩)),.p (.sc (.string ⟨#[105,51,50,46,99,116,122]⟩)),.p (.sc (.string ⟨#[105,51,50,46,112,111,112,99,110,116]⟩)),.p (.sc (.string ⟨#[105,51,50,46,97,100,100]⟩)),.p (.sc (.string ⟨#[105,51,50,46,115,117,98]⟩)),.p (.sc (.string ⟨#[105,51,50,46,109,117,108]⟩)),.p (.sc (.string ⟨#[105,51,50,46,100,105,118,95,115]⟩)),.p (.sc (.string ⟨#[105,51,50,46,100,105,118,95,117]⟩)),.p (.sc (.string ⟨#[105,51,50,46,114,101,109,95,115]⟩)),.p (.sc (.string ⟨#[105,51,50,46,114,101,109,95,117]⟩)),.p (.sc (.string ⟨#[105,51,50,46,97,110,100]⟩)),.p (.sc (.string ⟨#[105,51,50,46,111,114]⟩)),.p (.sc (.string ⟨#[105,51,50,46,120,111,114]⟩)),.p (.sc (.string ⟨#[105,51,50,46,115,104,108]⟩)),.p (.sc (.string ⟨#[105,51,50,46,115,104,114,95,115]⟩)),.p (.sc (.string ⟨#[105,51,50,46,115,104,114,95,117]⟩)),.p (.sc (.string ⟨#[105,51,50,46,114,111,116,108]⟩)),.p (.sc (.string ⟨#[105,51,50,46,114,111,116,114]⟩)),.p (.sc (.string ⟨#[]⟩)),.p (.sc (.string ⟨#[]⟩)),.p (.sc (.string ⟨#[]⟩)),.p (.sc (.string ⟨#[]⟩)),.p (.sc (.string ⟨#[]⟩)),.p (.sc (.string ⟨#[]⟩)),.p (.sc (.string ⟨#[]⟩)),.p (.sc (.string ⟨#[]⟩)),.p (.sc (.string ⟨#[]⟩)),.p (.sc (.string ⟨#[]⟩)),.p (.sc (.string ⟨#[]⟩)),.p (.sc (.string ⟨#[]⟩)),.p (.sc (.string ⟨#[]⟩)),.p (.sc (.string ⟨#[]⟩)),.p (.sc (.string ⟨#[]⟩)),.p (.sc (.string ⟨#[]⟩)),.p (.sc (.string ⟨#[]⟩)),.p (.sc (.string ⟨#[]⟩)),.p (.sc (.string ⟨#[]⟩)),.p (.sc (.string ⟨#[]⟩)),.p (.sc (.string ⟨#[]⟩)),.p (.sc (.string ⟨#[]⟩)),.p (.sc (.string ⟨#[]⟩)),.p (.sc (.string ⟨#[]⟩)),.p (.sc (.string ⟨#[]⟩)),.p (.sc (.string ⟨#[]⟩)),.p (.sc (.string ⟨#[]⟩)),.p (.sc (.string ⟨#[]⟩)),.p (.sc (.string ⟨#[]⟩)),.p (.sc (.string ⟨#[]⟩)),.p (.sc (.string ⟨#[]⟩)),.p (.sc (.string ⟨#[]⟩)),.p (.sc (.string ⟨#[]⟩)),.p (.sc (.string ⟨#[]⟩)),.p (.sc (.string ⟨#[]⟩)),.p (.sc (.string ⟨#[]⟩)),.p (.sc (.string ⟨#[]⟩)),.p (.sc (.string ⟨#[]⟩)),.p (.sc (.string ⟨#[]⟩)),.p (.sc (.string ⟨#[]⟩)),.p (.sc (.string ⟨#[]⟩)),.p (.sc (.string ⟨#[]⟩)),.p (.sc (.string ⟨#[]⟩)),.p (.sc (.string ⟨#[]⟩)),.p (.sc (.string ⟨#[]⟩)),.p (.sc (.string ⟨#[]⟩)),.p (.sc (.string ⟨#[]⟩)),.p (.sc (.string ⟨#[]⟩)),.p (.sc (.string ⟨#[]⟩)),.p (.sc (.string ⟨#[]⟩)),.p (.sc (.string ⟨#[]⟩)),.p (.sc (.string ⟨#[]⟩)),.p (.sc (.string ⟨#[]⟩)),.p (.sc (.string ⟨#[]⟩)),.p (.sc (.string ⟨#[]⟩)),.p (.sc (.string ⟨#[]⟩)),.p (.sc (.string ⟨#[]⟩)),.p (.sc (.string ⟨#[]⟩)),.p (.sc (.string ⟨#[]⟩)),.p (.sc (.string ⟨#[]⟩)),.p (.sc (.string ⟨#[]⟩)),.p (.sc (.string ⟨#[]⟩)),.p (.sc (.string ⟨#[]⟩)),.p (.sc (.string ⟨#[]⟩)),.p (.sc (.string ⟨#[]⟩)),.p (.sc (.string ⟨#[]⟩)),.p (.sc (.string ⟨#[]⟩)),.p (.sc (.string ⟨#[]⟩)),.p (.sc (.string ⟨#[]⟩)),.p (.sc (.string ⟨#[]⟩)),.p (.sc (.string ⟨#[]⟩)),.p (.sc (.string ⟨#[]⟩)),.p (.sc (.string ⟨#[]⟩)),.p (.sc (.string ⟨#[]⟩)),.p (.sc (.string ⟨#[]⟩)),.p (.sc (.string ⟨#[]⟩)),.p (.sc (.string ⟨#[]⟩)),.p (.sc (.string ⟨#[]⟩)),.p (.sc (.string ⟨#[]⟩)),.p (.sc (.string ⟨#[]⟩)),.p (.sc (.string ⟨#[]⟩)),.p (.sc (.string ⟨#[]⟩)),.p (.sc (.string ⟨#[]⟩)),.p (.sc (.string ⟨#[]⟩)),.p (.sc (.string ⟨#[]⟩)),.p (.sc (.string ⟨#[]⟩)),.p (.sc (.string ⟨#[]⟩)),.p (.sc (.string ⟨#[]⟩)),.p (.sc (.string ⟨#[]⟩)),.p (.sc (.string ⟨#[]⟩)),.p (.sc (.string ⟨#[]⟩)),.p (.sc (.string ⟨#[]⟩)),.p (.sc (.string ⟨#[]⟩)),.p (.sc (.string ⟨#[]⟩)),.p (.sc (.string ⟨#[]⟩)),.p (.sc (.string ⟨#[]⟩)),.p (.sc (.string ⟨#[]⟩)),.p (.sc (.string ⟨#[]⟩)),.p (.sc (.string ⟨#[]⟩)),.p (.sc (.string ⟨#[]⟩)),.p (.sc (.string ⟨#[]⟩)),.p (.sc (.string ⟨#[]⟩)),.p (.sc (.string ⟨#[]⟩)),.p (.sc (.string ⟨#[]⟩)),.p (.sc (.string ⟨#[]⟩)),.p (.sc (.string ⟨#[]⟩)),.p (.sc (.string ⟨#[]⟩)),.p (.sc (.string ⟨#[]⟩)),.p (.sc (.string ⟨#[]⟩)),.p (.sc (.string ⟨#[]⟩)),.p (.sc (.string ⟨#[]⟩)),.p (.sc (.string ⟨#[]⟩)),.p (.sc (.string ⟨#[]⟩)),.p (.sc (.string ⟨#[]⟩)),.p (.sc (.string ⟨#[]⟩)),.p (.sc (.string ⟨#[]⟩)),.p (.sc (.string ⟨#[]⟩)),.p (.sc (.string ⟨#[]⟩)),.p (.sc (.string ⟨#[]⟩)),.p (.sc (.string ⟨#[]⟩)),.p (.sc (.string ⟨#[]⟩)),.p (.sc (.string ⟨#[]⟩)),.p (.sc (.string ⟨#[]⟩)),.p (.sc (.string ⟨#[]⟩)),.p (.sc (.string ⟨#[]⟩)),.p (.sc (.string ⟨#[]⟩)),.p (.sc (.string ⟨#[]⟩)),.p (.sc (.string ⟨#[]⟩)),.p (.sc (.string ⟨#[]⟩)),.p (.sc (.string ⟨#[]⟩)),.p (.sc (.string ⟨#[]⟩)),.p (.sc (.string ⟨#[]⟩)),.p (.sc (.string ⟨#[]⟩)),.p (.sc (.string ⟨#[]⟩)),.p (.sc (.string ⟨#[]⟩))],[]⟩
theorem Sa:aG ae uC F1.g F1.args F1.m F1.v F1.m':=fI cV (K:=Nt) I1 (n:=10000000) (by kernel_rfl)
def Nu:List cF:=F1::Nt
theorem I2:fu ae uC Nu:=gA Sa I1
def F2:cF:=⟨31,[.os none 2 8 [.sc (.int .i64 65),.sc (.int .i64 0),.sc (.int .u32 0),.sc (.int .u32 0),.sc (.int .i32 (-1)),.ps 0 0 [],.ps 0 0 [],.ps 0 0 [],.sc (.int .i64 26),.sc (.int .i64 0),.sc (.int .u32 0),.sc (.int .u32 0),.sc (.int .i32 0),.ps 0 0 [],.ps 0 0 [],.ps 0 0 []]],[],.p (.sc (.int .i64 0)),[]⟩
theorem Sb:aG ae uC F2.g F2.args F2.m F2.v F2.m':=fI cV (K:=Nu) I2 (n:=10000000) (by kernel_rfl)
def Nv:List cF:=F2::Nu
theorem I3:fu ae uC Nv:=gA Sb I2
def F3:cF:=⟨27,[.mp 0 0],[.ac [.os none 5 1 [.sc (.int .u8 4),.sc (.int .u8 64),.sc (.int .u8 5),.sc (.int .u8 11),.sc (.int .u8 11)],.p (.sc (.int .i64 0)),.p (.sc (.int .i64 0)),.p (.sc (.int .i64 0))]],.ms 1 0 1 8 none,[.ac [.os none 5 1 [.sc (.int .u8 4),.sc (.int .u8 64),.sc (.int .u8 5),.sc (.int .u8 11),.sc (.int .u8 11)],.p (.sc (.int .i64 5)),.p (.sc (.int .i64 0)),.p (.sc (.int .i64 0))],.ob (.gr 62 true) [.p (.sc (.int .i64 4)),.p (.sc (.int .i64 0)),.p (.sc (.int .u32 0)),.p (.sc (.int .u32 0)),.p (.sc (.int .i32 0)),.p (.ps 0 0 []),.p (.ps 0 0 []),.p (.ps 0 0 [])]]⟩
theorem Sd:aG ae uC F3.g F3.args F3.m F3.v F3.m':=fI cV (K:=Nv) I3 (n:=10000000) (by kernel_rfl)
def P3:List cF:=F3::Nv
theorem Nw:fu ae uC P3:=gA Sd I3
theorem Nx:aG ae uC 12 [] [] (.p (.sc (.bool true))) []:=fI cV (K:=P3) Nw (n:=10000000) (by kernel_rfl)
theorem DP:aG ae env 12 [] [] (sB true) []:=aG.env (E:=uC) Nx fun _ _ q=>q
end Go.Proofs.YtddfgnmjecogdaaDoor.N
end
