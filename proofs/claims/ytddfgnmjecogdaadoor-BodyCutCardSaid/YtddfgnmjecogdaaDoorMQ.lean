import Derived.Test.YtddfgnmjecogdaaDoorMK
import Derived.Test.YtddfgnmjecogdaaDoorMH
import Derived.Test.YtddfgnmjecogdaaDoorMI
open Nat renaming ble_eq→TF,beq→a6
open Go.Proofs.Tryd renaming prog→ae
open Go.Fn renaming func→TB
open Go.IntKind renaming i64→tl,u32→Tp,u8→TH,i32→TI
open Bool renaming false_eq_true→pC,true_eq_false→TJ,and_eq_true→di
open List renaming length_append→dC,length_cons→od,length_nil→Tr,drop_eq_nil_of_le→Uc,drop_eq_getElem_cons→Ud,getElem_mem→fg,drop_zero→Tq
open Int renaming toNat_natCast→TE,reduceBEq→TT
noncomputable section
section
set_option linter.unusedSimpArgs false
set_option linter.unusedVariables false
namespace Go.Proofs.YtddfgnmjecogdaaDoor.N
open Go Go.Am
abbrev aaa:=Int→Nat
abbrev aab:=Int→List PV
def R0 (l:List Ins) (k:Nat) (X:List PV) (i:Nat) (op r a b nn:Int) (tg:List Int) (ll le:List Ins) (al:Int) (st:Bool) (J J':aaa) (Q Q':aab) (JJ:List PV→Nat) (QQ:List PV→List PV) (f:FuncId) (_:List AV) (m:Mem):Option (AV×Mem):=cond (a6 f 53) (some (.bn [sI .u32 al,sB st],m)) none
def R2 (l:List Ins) (k:Nat) (X:List PV) (i:Nat) (op r a b nn:Int) (tg:List Int) (ll le:List Ins) (al:Int) (st:Bool) (J J':aaa) (Q Q':aab) (JJ:List PV→Nat) (QQ:List PV→List PV) (f:FuncId) (args:List AV) (m:Mem):Option (AV×Mem):=
 cond (a6 f 35) (match args with | [.p (.sc (.int _ n))]=>some (.p (.ps (J n) 1 (Q n)),m) | _=>none)
 (cond (a6 f 52) (match args with | [.p (.sc (.int _ n))]=>some (.p (.ps (J' n) 1 (Q' n)),m) | _=>none)
 (cond (a6 f 32) (match args with | [.os (some _) k' _ X',.p (.ps _ _ cs)]=>some (.os (some 1) (k'+JJ cs) 1 (X'++QQ cs),[.dead,.tok]) | _=>none) none))
def R3 (l:List Ins) (k:Nat) (X:List PV) (i:Nat) (op r a b nn:Int) (tg:List Int) (ll le:List Ins) (al:Int) (st:Bool) (J J':aaa) (Q Q':aab) (JJ:List PV→Nat) (QQ:List PV→List PV):FuncId→Nat→Nat→Option (AV→AV):=eP [(32,5,1,A6 op r a b nn tg ll le),(32,47,0,sI .i64 ((i+1:Nat):Int))]
def PL (l:List Ins) (k:Nat) (X:List PV) (i j:Nat) (op r a b nn:Int) (tg:List Int) (ll le:List Ins) (t:Int) (J:aaa) (Q:aab):FuncId→Nat→Nat→Option (AV→AV):=eP [(32,38,1,sI .u32 t),(32,40,0,sI .i64 ((j+1:Nat):Int)),(32,47,0,sI .i64 ((i+1:Nat):Int))]
def PM (l:List Ins) (k:Nat) (X:List PV) (i j:Nat) (op r a b nn:Int) (tg:List Int) (ll le:List Ins) (t:Int) (J:aaa) (Q:aab) (f:FuncId) (args:List AV) (m:Mem):Option (AV×Mem):=
 cond (a6 f 35) (match args with | [.p (.sc (.int _ n))]=>some (.p (.ps (J n) 1 (Q n)),m) | _=>none) none
def NK:hJ:=gk eK cK [(32,0)] [] []
def PN:Sc:= .fin
def GY (l:List Ins) (k:Nat) (X:List PV):aP:=
 (.at (aj ae env 32 0 [.mp 1 0,.fn (TB 51) [] [.mp 1 0],.p (.ps l.length 8 (aa l)),sI .i64 (↑l.length:Int),sI .i64 0] ([.tok,.ac [.os (some 0) k 1 X]]) 1 130))
theorem I2 (l:List Ins) (k:Nat) (X:List PV):dJ ae env NK 1000000 32 ([AV.os (Option.some 0) k 1 X,aL l]) ([aF.tok]) PN=GY l k X:=by kernel_rfl
def Lh (l:List Ins) (k:Nat) (X:List PV) (i:Nat) (op r a b nn:Int) (tg:List Int) (ll:List Ins) (le:List Ins) (al:Int) (st:Bool) (J:aaa) (J':aaa) (Q:aab) (Q':aab) (JJ:List PV→Nat) (QQ:List PV→List PV):hJ:=qa (R0 l k X i op r a b nn tg ll le al st J J' Q Q' JJ QQ) (R2 l k X i op r a b nn tg ll le al st J J' Q Q' JJ QQ) [(32,0),(32,17)] [(32,0,1),(32,0,2),(32,0,4),(32,0,5),(32,0,6),(32,0,3),(32,0,7),(32,0,14),(32,0,8),(32,0,9),(32,0,10),(32,0,11),(32,0,12),(32,0,13),(32,0,15),(32,0,16),(32,0,19),(32,0,20),(32,0,21),(32,0,22)] [(32,5,0),(32,5,1),(32,6,5),(32,0,6),(32,0,7),(32,21,2),(51,0,0),(32,33,2),(32,44,2),(32,0,22)] (R3 l k X i op r a b nn tg ll le al st J J' Q Q' JJ QQ)
def NL:Sc:=(.fork (.fork (.yes .fin) (.fork (.yes .fin) (.fork .fin (.fork (.yes .fin) (.fork (.yes .fin) (.fork (.yes .fin) (.fork (.yes .fin) (.fork (.yes .fin) (.fork (.yes .fin) (.fork (.yes .fin) (.fork .fin (.fork .fin (.fork .fin (.fork (.yes .fin) .fin)))))))))))))) .fin)
def aU (l:List Ins) (k:Nat) (X:List PV) (i:Nat) (op r:Int) (ll:List Ins) (le:List Ins) (JJ:List PV→Nat) (QQ:List PV→List PV):aP:=
 (.test (r==1) (.call ⟨32,[.os (some 0) (k+1+1) 1 (X++[.sc (.int .u8 (TH.wrap op))]++[.sc (.int .u8 127)]),.p (.ps ll.length 8 (aa ll))],[.tok],.os (some 1) (k+1+1+JJ (aa ll)) 1 (X++[.sc (.int .u8 (TH.wrap op))]++[.sc (.int .u8 127)]++QQ (aa ll)),[.dead,.tok]⟩ (.must (((k+1+1)*1).ble cE&&(k+1+1).ble cE&&true&&true&&true) (.test (decide ((↑le.length:Int)>0)) (.call ⟨32,[.os (some 0) (k+1+1+JJ (aa ll)+1) 1 (X++[.sc (.int .u8 (TH.wrap op))]++[.sc (.int .u8 127)]++QQ (aa ll)++[.sc (.int .u8 5)]),.p (.ps le.length 8 (aa le))],[.tok],.os (some 1) (k+1+1+JJ (aa ll)+1+JJ (aa le)) 1 (X++[.sc (.int .u8 (TH.wrap op))]++[.sc (.int .u8 127)]++QQ (aa ll)++[.sc (.int .u8 5)]++QQ (aa le)),[.dead,.tok]⟩ (.must (((k+1+1+JJ (aa ll)+1)*1).ble cE&&(k+1+1+JJ (aa ll)+1).ble cE&&true&&true&&true) (.must (((k+1+1+JJ (aa ll)+1+JJ (aa le)+1)*1).ble cE&&(k+1+1+JJ (aa ll)+1+JJ (aa le)+1).ble cE&&true) (.need (sI .i64 (tl.wrap ((↑i:Int)+1))=sI tl (↑(i+1):Int)) (.at (aj ae env 32 0 [.mp 1 0,.fn (TB 51) [] [.mp 1 0],.p (.ps l.length 8 (aa l)),sI .i64 (↑l.length:Int),sI .i64 (↑(i+1):Int)] ([.dead,.ac [.os (some 2) (k+1+1+JJ (aa ll)+1+JJ (aa le)+1) 1 (X++[.sc (.int .u8 (TH.wrap op))]++[.sc (.int .u8 127)]++QQ (aa ll)++[.sc (.int .u8 5)]++QQ (aa le)++[.sc (.int .u8 11)])],.tok]) 1 130)))))) (.must (((k+1+1+JJ (aa ll)+1)*1).ble cE&&(k+1+1+JJ (aa ll)+1).ble cE&&true) (.need (sI .i64 (tl.wrap ((↑i:Int)+1))=sI tl (↑(i+1):Int)) (.at (aj ae env 32 0 [.mp 1 0,.fn (TB 51) [] [.mp 1 0],.p (.ps l.length 8 (aa l)),sI .i64 (↑l.length:Int),sI .i64 (↑(i+1):Int)] ([.dead,.ac [.os (some 2) (k+1+1+JJ (aa ll)+1) 1 (X++[.sc (.int .u8 (TH.wrap op))]++[.sc (.int .u8 127)]++QQ (aa ll)++[.sc (.int .u8 11)])],.tok]) 1 130))))))) (.call ⟨32,[.os (some 0) (k+1+1) 1 (X++[.sc (.int .u8 (TH.wrap op))]++[.sc (.int .u8 64)]),.p (.ps ll.length 8 (aa ll))],[.tok],.os (some 1) (k+1+1+JJ (aa ll)) 1 (X++[.sc (.int .u8 (TH.wrap op))]++[.sc (.int .u8 64)]++QQ (aa ll)),[.dead,.tok]⟩ (.must (((k+1+1)*1).ble cE&&(k+1+1).ble cE&&true&&true&&true) (.test (decide ((↑le.length:Int)>0)) (.call ⟨32,[.os (some 0) (k+1+1+JJ (aa ll)+1) 1 (X++[.sc (.int .u8 (TH.wrap op))]++[.sc (.int .u8 64)]++QQ (aa ll)++[.sc (.int .u8 5)]),.p (.ps le.length 8 (aa le))],[.tok],.os (some 1) (k+1+1+JJ (aa ll)+1+JJ (aa le)) 1 (X++[.sc (.int .u8 (TH.wrap op))]++[.sc (.int .u8 64)]++QQ (aa ll)++[.sc (.int .u8 5)]++QQ (aa le)),[.dead,.tok]⟩ (.must (((k+1+1+JJ (aa ll)+1)*1).ble cE&&(k+1+1+JJ (aa ll)+1).ble cE&&true&&true&&true) (.must (((k+1+1+JJ (aa ll)+1+JJ (aa le)+1)*1).ble cE&&(k+1+1+JJ (aa ll)+1+JJ (aa le)+1).ble cE&&true) (.need (sI .i64 (tl.wrap ((↑i:Int)+1))=sI tl (↑(i+1):Int)) (.at (aj ae env 32 0 [.mp 1 0,.fn (TB 51) [] [.mp 1 0],.p (.ps l.length 8 (aa l)),sI .i64 (↑l.length:Int),sI .i64 (↑(i+1):Int)] ([.dead,.ac [.os (some 2) (k+1+1+JJ (aa ll)+1+JJ (aa le)+1) 1 (X++[.sc (.int .u8 (TH.wrap op))]++[.sc (.int .u8 64)]++QQ (aa ll)++[.sc (.int .u8 5)]++QQ (aa le)++[.sc (.int .u8 11)])],.tok]) 1 130)))))) (.must (((k+1+1+JJ (aa ll)+1)*1).ble cE&&(k+1+1+JJ (aa ll)+1).ble cE&&true) (.need (sI .i64 (tl.wrap ((↑i:Int)+1))=sI tl (↑(i+1):Int)) (.at (aj ae env 32 0 [.mp 1 0,.fn (TB 51) [] [.mp 1 0],.p (.ps l.length 8 (aa l)),sI .i64 (↑l.length:Int),sI .i64 (↑(i+1):Int)] ([.dead,.ac [.os (some 2) (k+1+1+JJ (aa ll)+1) 1 (X++[.sc (.int .u8 (TH.wrap op))]++[.sc (.int .u8 64)]++QQ (aa ll)++[.sc (.int .u8 11)])],.tok]) 1 130))))))))
def aM (l:List Ins) (k:Nat) (X:List PV) (i:Nat) (op a:Int) (J:aaa) (Q:aab):aP:=
 (.call ⟨35,[sI .u32 a],[],.p (.ps (J a) 1 (Q a)),[]⟩ (.must (((k+1+J a)*1).ble cE&&(k+1+J a).ble cE&&true&&true&&true) (.must true (.need (sI .i64 (tl.wrap ((↑i:Int)+1))=sI tl (↑(i+1):Int)) (.at (aj ae env 32 0 [.mp 1 0,.fn (TB 51) [] [.mp 1 0],.p (.ps l.length 8 (aa l)),sI .i64 (↑l.length:Int),sI .i64 (↑(i+1):Int)] ([.dead,.ac [.os (some 2) (k+1+J a) 1 (X++[.sc (.int .u8 (TH.wrap op))]++Q a)],.tok]) 1 130))))))
def aX (l:List Ins) (k:Nat) (X:List PV) (i:Nat) (op:Int):aP:=
 (.must (((k+1+1)*1).ble cE&&(k+1+1).ble cE&&true) (.need (sI .i64 (tl.wrap ((↑i:Int)+1))=sI tl (↑(i+1):Int)) (.at (aj ae env 32 0 [.mp 1 0,.fn (TB 51) [] [.mp 1 0],.p (.ps l.length 8 (aa l)),sI .i64 (↑l.length:Int),sI .i64 (↑(i+1):Int)] ([.dead,.ac [.os (some 2) (k+1+1) 1 (X++[.sc (.int .u8 (TH.wrap op))]++[.sc (.int .u8 0)])],.tok]) 1 130))))
def bN (l:List Ins) (k:Nat) (X:List PV) (i:Nat) (op r a b nn:Int) (tg:List Int) (ll:List Ins) (le:List Ins) (al:Int) (st:Bool) (J:aaa) (J':aaa) (Q:aab) (Q':aab) (JJ:List PV→Nat) (QQ:List PV→List PV):aP:=
 (.test (decide ((↑i:Int)<(↑l.length:Int)))
 (.must (fG (↑i:Int) l.length&&true&&true)
 (.must (isInt tl (cq (aa l) (eu i*8))&&(isInt tl (cq (aa l) (eu i*8+1))&&(isInt Tp (cq (aa l) (eu i*8+1+1))&&(isInt Tp (cq (aa l) (eu i*8+1+1+1))&&(isInt TI (cq (aa l) (eu i*8+1+1+1+1))&&(dA (cq (aa l) (eu i*8+1+1+1+1+1))&&(dA (cq (aa l) (eu i*8+1+1+1+1+1+1))&&(dA (cq (aa l) (eu i*8+1+1+1+1+1+1+1))&&true)))))))&&true)
 (.need (AV.agg [sI .i64 (bp (cq (aa l) (eu i*8))),sI .i64 (bp (cq (aa l) (eu i*8+1))),sI .u32 (bp (cq (aa l) (eu i*8+1+1))),sI .u32 (bp (cq (aa l) (eu i*8+1+1+1))),sI .i32 (bp (cq (aa l) (eu i*8+1+1+1+1))),AV.p (PV.ps (aJ (cq (aa l) (eu i*8+1+1+1+1+1))) (cO (cq (aa l) (eu i*8+1+1+1+1+1))) (aI (cq (aa l) (eu i*8+1+1+1+1+1)))),AV.p (PV.ps (aJ (cq (aa l) (eu i*8+1+1+1+1+1+1))) (cO (cq (aa l) (eu i*8+1+1+1+1+1+1))) (aI (cq (aa l) (eu i*8+1+1+1+1+1+1)))),AV.p (PV.ps (aJ (cq (aa l) (eu i*8+1+1+1+1+1+1+1))) (cO (cq (aa l) (eu i*8+1+1+1+1+1+1+1))) (aI (cq (aa l) (eu i*8+1+1+1+1+1+1+1))))]=A6 op r a b nn tg ll le)
 (.must (((k+1)*1).ble cE&&(k+1).ble cE&&true)
 (.test (op==2)
 (.must (op==2)
 (aU l k X i op r ll le JJ QQ))
 (.test (op==3)
 (.must (op==3)
 (aU l k X i op r ll le JJ QQ))
 (.test (op==4)
 (aU l k X i op r ll le JJ QQ)
 (.test (op==12)
 (.must (op==12)
 (aM l k X i op a J Q))
 (.test (op==13)
 (.must (op==13)
 (aM l k X i op a J Q))
 (.test (op==16)
 (.must (op==16)
 (aM l k X i op a J Q))
 (.test (op==32)
 (.must (op==32)
 (aM l k X i op a J Q))
 (.test (op==33)
 (.must (op==33)
 (aM l k X i op a J Q))
 (.test (op==34)
 (.must (op==34)
 (aM l k X i op a J Q))
 (.test (op==35)
 (.must (op==35)
 (aM l k X i op a J Q))
 (.test (op==36)
 (aM l k X i op a J Q)
 (.test (op==17)
 (.call ⟨35,[sI .u32 a],[],.p (.ps (J a) 1 (Q a)),[]⟩
 (.must (((k+1+J a)*1).ble cE&&(k+1+J a).ble cE&&true&&true&&true)
 (.must true
 (.must (((k+1+J a+1)*1).ble cE&&(k+1+J a+1).ble cE&&true)
 (.need (sI .i64 (tl.wrap ((↑i:Int)+1))=sI tl (↑(i+1):Int))
 (.at (aj ae env 32 0 [.mp 1 0,.fn (TB 51) [] [.mp 1 0],.p (.ps l.length 8 (aa l)),sI .i64 (↑l.length:Int),sI .i64 (↑(i+1):Int)] ([.dead,.ac [.os (some 2) (k+1+J a+1) 1 (X++[.sc (.int .u8 (TH.wrap op))]++Q a++[.sc (.int .u8 0)])],.tok]) 1 130)))))))
 (.test (op==14)
 (.call ⟨35,[sI .u32 (Tp.wrap (↑tg.length:Int))],[],.p (.ps (J (Tp.wrap (↑tg.length:Int))) 1 (Q (Tp.wrap (↑tg.length:Int)))),[]⟩
 (.must (((k+1+J (Tp.wrap (↑tg.length:Int)))*1).ble cE&&(k+1+J (Tp.wrap (↑tg.length:Int))).ble cE&&true&&true&&true)
 (.must true
 (.at (aj ae env 32 17 [.mp 1 0,.fn (TB 51) [] [.mp 1 0],.mp 2 0,.p (.ps l.length 8 (aa l)),sI .i64 (↑l.length:Int),sI .i64 (↑i:Int),.p (.ps tg.length 1 (cD Tp tg)),sI .i64 (↑tg.length:Int),sI .i64 0] ([.dead,.ac [.os (some 3) (k+1+J (Tp.wrap (↑tg.length:Int))) 1 (X++[.sc (.int .u8 (TH.wrap op))]++Q (Tp.wrap (↑tg.length:Int)))],.ac [sI .i64 op,sI .i64 r,sI .u32 a,sI .u32 b,sI .i32 nn,.p (.ps tg.length 1 (cD Tp tg)),.p (.ps ll.length 8 (aa ll)),.p (.ps le.length 8 (aa le))],.tok]) 1 130)))))
 (.test (op==63)
 (.must (op==63)
 (aX l k X i op))
 (.test (op==64)
 (aX l k X i op)
 (.test (op==65)
 (.call ⟨52,[sI .i32 nn],[],.p (.ps (J' nn) 1 (Q' nn)),[]⟩
 (.must (((k+1+J' nn)*1).ble cE&&(k+1+J' nn).ble cE&&true&&true&&true)
 (.need (sI .i64 (tl.wrap ((↑i:Int)+1))=sI tl (↑(i+1):Int))
 (.at (aj ae env 32 0 [.mp 1 0,.fn (TB 51) [] [.mp 1 0],.p (.ps l.length 8 (aa l)),sI .i64 (↑l.length:Int),sI .i64 (↑(i+1):Int)] ([.dead,.ac [.os (some 2) (k+1+J' nn) 1 (X++[.sc (.int .u8 (TH.wrap op))]++Q' nn)],.tok]) 1 130)))))
 (.call ⟨53,[sI .i64 op],[],.bn [sI .u32 al,.p (.sc (.bool st))],[]⟩
 (.test (st)
 (.call ⟨35,[sI .u32 a],[],.p (.ps (J a) 1 (Q a)),[]⟩
 (.must (((k+1+J a)*1).ble cE&&(k+1+J a).ble cE&&true&&true&&true)
 (.must true
 (.call ⟨35,[sI .u32 b],[],.p (.ps (J b) 1 (Q b)),[]⟩
 (.must (((k+1+J a+J b)*1).ble cE&&(k+1+J a+J b).ble cE&&true&&true&&true)
 (.must true
 (.need (sI .i64 (tl.wrap ((↑i:Int)+1))=sI tl (↑(i+1):Int))
 (.at (aj ae env 32 0 [.mp 1 0,.fn (TB 51) [] [.mp 1 0],.p (.ps l.length 8 (aa l)),sI .i64 (↑l.length:Int),sI .i64 (↑(i+1):Int)] ([.dead,.ac [.os (some 2) (k+1+J a+J b) 1 (X++[.sc (.int .u8 (TH.wrap op))]++Q a++Q b)],.tok]) 1 130)))))))))
 (.need (sI .i64 (tl.wrap ((↑i:Int)+1))=sI tl (↑(i+1):Int))
 (.at (aj ae env 32 0 [.mp 1 0,.fn (TB 51) [] [.mp 1 0],.p (.ps l.length 8 (aa l)),sI .i64 (↑l.length:Int),sI .i64 (↑(i+1):Int)] ([.dead,.ac [.os (some 2) (k+1) 1 (X++[.sc (.int .u8 (TH.wrap op))])],.tok]) 1 130)))))))))))))))))))))))))
 (.out (.ret (.os (some 1) k 1 X) [.dead,.tok])))
theorem Bt (l:List Ins) (k:Nat) (X:List PV) (i:Nat) (op r a b nn:Int) (tg:List Int) (ll:List Ins) (le:List Ins) (al:Int) (st:Bool) (J:aaa) (J':aaa) (Q:aab) (Q':aab) (JJ:List PV→Nat) (QQ:List PV→List PV):grow ae env (Lh l k X i op r a b nn tg ll le al st J J' Q Q' JJ QQ) 1000000 true (aj ae env 32 0 ([AV.mp 1 0,AV.fn (TB 51) [] [AV.mp 1 0],aL l,sI tl (↑l.length:Int),sI tl (↑i:Int)]) ([aF.dead,aF.ac [AV.os (Option.some 2) k 1 X],aF.tok]) 1 130) NL atEnd=bN l k X i op r a b nn tg ll le al st J J' Q Q' JJ QQ:=by kernel_rfl
def Li (l:List Ins) (k:Nat) (X:List PV) (i:Nat) (j:Nat) (op r a b nn:Int) (tg:List Int) (ll:List Ins) (le:List Ins) (t:Int) (J:aaa) (Q:aab):hJ:=qa eK (PM l k X i j op r a b nn tg ll le t J Q) [(32,0),(32,17)] [(32,0,18)] [(32,38,0),(32,38,1),(51,0,0)] (PL l k X i j op r a b nn tg ll le t J Q)
def NM:Sc:= .fin
def zD (l:List Ins) (k:Nat) (X:List PV) (i:Nat) (j:Nat) (op r a b nn:Int) (tg:List Int) (ll:List Ins) (le:List Ins) (t:Int) (J:aaa) (Q:aab):aP:=
 (.test (decide ((↑j:Int)<(↑tg.length:Int)))
 (.must (fG (↑j:Int) tg.length&&true&&true)
 (.must (isInt Tp (cq (cD Tp tg) (eu j*1))&&true)
 (.need (sI .u32 (bp (cq (cD Tp tg) (eu j*1)))=sI Tp t)
 (.call ⟨35,[sI .u32 t],[],.p (.ps (J t) 1 (Q t)),[]⟩
 (.must (((k+J t)*1).ble cE&&(k+J t).ble cE&&true&&true&&true)
 (.must true
 (.need (sI .i64 (tl.wrap ((↑j:Int)+1))=sI tl (↑(j+1):Int))
 (.at (aj ae env 32 17 [.mp 1 0,.fn (TB 51) [] [.mp 1 0],.mp 2 0,.p (.ps l.length 8 (aa l)),sI .i64 (↑l.length:Int),sI .i64 (↑i:Int),.p (.ps tg.length 1 (cD Tp tg)),sI .i64 (↑tg.length:Int),sI .i64 (↑(j+1):Int)] ([.dead,.ac [.os (some 3) (k+J t) 1 (X++Q t)],.ac [sI .i64 op,sI .i64 r,sI .u32 a,sI .u32 b,sI .i32 nn,.p (.ps tg.length 1 (cD Tp tg)),.p (.ps ll.length 8 (aa ll)),.p (.ps le.length 8 (aa le))],.tok]) 1 130)))))))))
 (.call ⟨35,[sI .u32 a],[],.p (.ps (J a) 1 (Q a)),[]⟩
 (.must (((k+J a)*1).ble cE&&(k+J a).ble cE&&true&&true&&true)
 (.must true
 (.need (sI .i64 (tl.wrap ((↑i:Int)+1))=sI tl (↑(i+1):Int))
 (.at (aj ae env 32 0 [.mp 1 0,.fn (TB 51) [] [.mp 1 0],.p (.ps l.length 8 (aa l)),sI .i64 (↑l.length:Int),sI .i64 (↑(i+1):Int)] ([.dead,.ac [.os (some 2) (k+J a) 1 (X++Q a)],.tok]) 1 130)))))))
theorem Bu (l:List Ins) (k:Nat) (X:List PV) (i:Nat) (j:Nat) (op r a b nn:Int) (tg:List Int) (ll:List Ins) (le:List Ins) (t:Int) (J:aaa) (Q:aab):grow ae env (Li l k X i j op r a b nn tg ll le t J Q) 1000000 true (aj ae env 32 17 ([AV.mp 1 0,AV.fn (TB 51) [] [AV.mp 1 0],AV.mp 2 0,aL l,sI tl (↑l.length:Int),sI tl (↑i:Int),AV.p (PV.ps tg.length 1 (cD Tp tg)),sI tl (↑tg.length:Int),sI tl (↑j:Int)]) ([aF.dead,aF.ac [AV.os (Option.some 3) k 1 X],aF.ac [sI tl op,sI tl r,sI Tp a,sI Tp b,sI TI nn,AV.p (PV.ps tg.length 1 (cD Tp tg)),aL ll,aL le],aF.tok]) 1 130) NM atEnd=zD l k X i j op r a b nn tg ll le t J Q:=by kernel_rfl
def zG (l:List Ins):Prop:= ∀X:List PV,X.length+20*eT l≤1000000000→aO ae env 32 [.os (some 0) X.length 1 X,aL l] [.tok] (.os (some 1) (X.length+jL (aa l)) 1 (X++qL (aa l))) [.dead,.tok]
theorem zG.to {l:List Ins} (h:zG l) {n:Nat} {X:List PV} (hn:n=X.length) (hX:X.length+20*eT l≤1000000000):aO ae env 32 [.os (some 0) n 1 X,aL l] [.tok] (.os (some 1) (n+jL (aa l)) 1 (X++qL (aa l))) [.dead,.tok]:=by subst hn;exact h X hX
noncomputable abbrev Em (l:List Ins) (X:List PV) (i n:Nat):bA:=aj ae env 32 0 [.mp 1 0,.fn (.func 51) [] [.mp 1 0],aL l,sI .i64 l.length,sI .i64 i] [.dead,.ac [.os (some 2) n 1 X],.tok] 1 130
theorem ko {l:List Ins} {X Y:List PV} {i n:Nat} {o:Out} (h:X=Y) (hn:n=Y.length) (k:dN ae env (Em l Y i Y.length) o):dN ae env (Em l X i n) o:=by subst h;subst hn;exact k
theorem I3 {l:List Ins} {i:Nat} {op r a b nn:Int} {tg:List Int} {ll le:List Ins} {o:Out} (hi:i<1000000000) (ha:0≤a∧a<4294967296) (ht : ∀t∈tg,0≤t∧t<4294967296) (hl:tg.length≤1000000) : ∀(n j:Nat) (X:List PV),j+n=tg.length→X.length+5*n≤1000000000 →
  dN ae env (Em l (X++(bt ((tg.drop j).flatMap fun t=>pU 4 t.toNat)++qU a)) (i+1) (X++(bt ((tg.drop j).flatMap fun t=>pU 4 t.toNat)++qU a)).length) o →
  dN ae env (aj ae env 32 17 [.mp 1 0,.fn (.func 51) [] [.mp 1 0],.mp 2 0,aL l,sI .i64 l.length,sI .i64 i,.p (.ps tg.length 1 (cD .u32 tg)),sI .i64 tg.length,sI .i64 j] [.dead,.ac [.os (some 3) X.length 1 X],.ac [sI .i64 op,sI .i64 r,sI .u32 a,sI .u32 b,sI .i32 nn,.p (.ps tg.length 1 (cD .u32 tg)),aL ll,aL le],.tok] 1 130) o:=by
 have dK:cE=70368744177664:=rfl
 have Sx:=Be a
 have R4:(qU a).length=jU a:=dB _
 have wi:tl.wrap ((i:Int)+1)=((i+1:Nat):Int):=by rw[aY (by omega) (by omega)];rfl
 intro n
 induction n with
 |zero=>
  intro j X hj hX hg
  have hd:decide ((j:Int)<(tg.length:Int))=false:=decide_eq_false (by omega)
  refine aD dy (Bu l X.length X i j op r a b nn tg ll le 0 jU qU) ?_
  simp only[zD,cJ,aP.ok,hd,dK,TF,di,and_true,pC,false_implies,true_implies,true_and,wi]
  refine⟨cT ha,⟨by omega,by omega⟩,ko ?_ ?_ hg⟩
  · rw[Uc (by omega)];simp[bt]
  · rw[Uc (by omega)];simp[bt,R4]
 |succ n ih=>
  intro j X hj hX hg
  have hjl:j<tg.length:=by omega
  have hd:decide ((j:Int)<(tg.length:Int))=true:=decide_eq_true (by omega)
  have Ae:=Be tg[j]
  have R5:(qU tg[j]).length=jU tg[j]:=dB _
  have w:tl.wrap ((j:Int)+1)=((j+1:Nat):Int):=by rw[aY (by omega) (by omega)];rfl
  have e:(X++qU tg[j])++(bt ((tg.drop (j+1)).flatMap fun t=>pU 4 t.toNat)++qU a)=X++(bt ((tg.drop j).flatMap fun t=>pU 4 t.toNat)++qU a):=by
   rw[Ud hjl,List.flatMap_cons,xX]
   simp[qU]
  have k:=ih (j+1) (X++qU tg[j]) (by omega) (by rw[dC];omega) (by rw[e];exact hg)
  have hin:fG (j:Int) tg.length=true:=by simp only[fG,di,decide_eq_true_eq];omega
  refine aD dy (Bu l X.length X i j op r a b nn tg ll le tg[j] jU qU) ?_
  simp only[zD,cJ,aP.ok,hd,dK,TF,di,and_true,true_and,TJ,false_implies,true_implies,hin,TE,Iw hjl,isInt,bp,w,beq_self_eq_true]
  refine⟨cT (ht _ (fg hjl)),⟨by omega,by omega⟩,?_⟩
  rw[dC,R5] at k
  exact k
theorem GZ {op:Int} (h:gI op=true) (iM : ¬op=17):op=12∨op=13∨op=16∨op=32∨op=33∨op=34∨op=35∨op=36:=by
 have:=m4.1 h
 omega
set_option maxHeartbeats 8000000 in
theorem G0 {l:List Ins} {i:Nat} {op r a b nn:Int} {tg:List Int} {ll le:List Ins} {X:List PV} {o:Out} (hg:l[i]? = some (.mk op r a b nn tg ll le)) (hi:i<1000000000)
  (hw:FP (.mk op r a b nn tg ll le)) (hX:X.length+20*lD (.mk op r a b nn tg ll le)≤1000000000) (hc:lD (.mk op r a b nn tg ll le)≤1000000) (h1:zG ll) (h2:zG le)
  (k:dN ae env (Em l (X++bt (iE (.mk op r a b nn tg ll le))) (i+1) (X++bt (iE (.mk op r a b nn tg ll le))).length) o):dN ae env (Em l X i X.length) o:=by
 have dK:cE=70368744177664:=rfl
 have Bw:i<l.length:=(List.getElem?_eq_some_iff.1 hg).1
 obtain⟨-,-,wa,wb,wn,⟨wt,PO⟩,-,-,-⟩:=hw
 have wa:=zu wa
 have wb:=zu wb
 have wn:=Gg wn
 have PO : ∀t∈tg,0≤t∧t<4294967296:=fun t ht=>zu (PO t ht)
 simp only[lD] at hc hX
 have k1:jL (aa ll)≤20*eT ll:=by rw[gL];exact lF ll
 have k2:jL (aa le)≤20*eT le:=by rw[gL];exact lF le
 have k3:=Be a
 have k4:=Be b
 have k5:=M5 nn
 have k6:=Be tg.length
 have q1:(qL (aa ll)).length=jL (aa ll):=by rw[iP,gL,dB]
 have q2:(qL (aa le)).length=jL (aa le):=by rw[iP,gL,dB]
 have q3:(qU a).length=jU a:=dB _
 have q4:(qU b).length=jU b:=dB _
 have q5:(qS nn).length=jS nn:=dB _
 have q6:(qU tg.length).length=jU tg.length:=dB _
 have hu:Tp.wrap (tg.length:Int)=tg.length:=C5 (by omega) (by omega)
 have hd:decide ((i:Int)<(l.length:Int))=true:=decide_eq_true (by omega)
 have hin:fG (i:Int) l.length=true:=by simp only[fG,di,decide_eq_true_eq];omega
 have w:tl.wrap ((i:Int)+1)=((i+1:Nat):Int):=by rw[aY (by omega) (by omega)];rfl
 obtain⟨c0,c1,c2,c3,c4,c5,c6,c7⟩:=A7 hg
 have c2:(aa l).getD (i*8+1+1) .eR = .sc (.int .u32 a):=c2
 have c3:(aa l).getD (i*8+1+1+1) .eR = .sc (.int .u32 b):=c3
 have c4:(aa l).getD (i*8+1+1+1+1) .eR = .sc (.int .i32 nn):=c4
 have c5:(aa l).getD (i*8+1+1+1+1+1) .eR = .ps tg.length 1 (cD .u32 tg):=c5
 have c6:(aa l).getD (i*8+1+1+1+1+1+1) .eR = .ps ll.length 8 (aa ll):=c6
 have c7:(aa l).getD (i*8+1+1+1+1+1+1+1) .eR = .ps le.length 8 (aa le):=c7
 have cb:PV.sc (.int .u8 (TH.wrap op)) = .sc (.int .u8 ((op%256).toNat:Int)):=by rw[fB]
 have a1:=oI op
 have hk:X.length+5≤1000000000:=by omega
 refine aD dy (Bt l X.length X i op r a b nn tg ll le (vJ op) (dO op) jU jS qU qS jL qL) ?_
 cases dj:dW op with
 |true=>
  have hop:(op==2)=true∨((op==2)=false∧(op==3)=true)∨((op==2)=false∧(op==3)=false∧(op==4)=true):=by
   rcases ez.1 dj with rfl | rfl | rfl
   · exact .inl rfl
   · exact .inr (.inl ⟨rfl,rfl⟩)
   · exact .inr (.inr ⟨rfl,rfl,rfl⟩)
  by_cases hr:r=1
  · by_cases hle:le.length=0
    · have he:decide ((le.length:Int)>0)=false:=decide_eq_false (by omega)
      have dr:(r==1)=true:=by rw[hr];rfl
      rcases hop with o2 | ⟨o2,o3⟩ | ⟨o2,o3,o4⟩
      · simp only[bN,aU,aM,aX,cJ,aP.ok,hd,dK,TF,di,and_true,true_and,TJ,pC,false_implies,true_implies,hin,TE,c0,c1,c2,c3,c4,c5,c6,c7,isInt,dA,bp,aJ,cO,aI,w,beq_self_eq_true,cb,hu,TT,o2,he,dr]
        exact⟨rfl,⟨by omega,by omega⟩,h1.to (by simp only[dC,od,Tr]) (by simp only[dC,od,Tr];omega),⟨by omega,by omega⟩,⟨by omega,by omega⟩,ko (by simp[iE,dj,hle,hr,bt,iP]) (by simp[iE,dj,hle,hr,bt,gL];omega) k⟩
      · simp only[bN,aU,aM,aX,cJ,aP.ok,hd,dK,TF,di,and_true,true_and,TJ,pC,false_implies,true_implies,hin,TE,c0,c1,c2,c3,c4,c5,c6,c7,isInt,dA,bp,aJ,cO,aI,w,beq_self_eq_true,cb,hu,TT,o2,o3,he,dr]
        exact⟨rfl,⟨by omega,by omega⟩,h1.to (by simp only[dC,od,Tr]) (by simp only[dC,od,Tr];omega),⟨by omega,by omega⟩,⟨by omega,by omega⟩,ko (by simp[iE,dj,hle,hr,bt,iP]) (by simp[iE,dj,hle,hr,bt,gL];omega) k⟩
      · simp only[bN,aU,aM,aX,cJ,aP.ok,hd,dK,TF,di,and_true,true_and,TJ,pC,false_implies,true_implies,hin,TE,c0,c1,c2,c3,c4,c5,c6,c7,isInt,dA,bp,aJ,cO,aI,w,beq_self_eq_true,cb,hu,TT,o2,o3,o4,he,dr]
        exact⟨rfl,⟨by omega,by omega⟩,h1.to (by simp only[dC,od,Tr]) (by simp only[dC,od,Tr];omega),⟨by omega,by omega⟩,⟨by omega,by omega⟩,ko (by simp[iE,dj,hle,hr,bt,iP]) (by simp[iE,dj,hle,hr,bt,gL];omega) k⟩
    · have he:decide ((le.length:Int)>0)=true:=decide_eq_true (by omega)
      have dr:(r==1)=true:=by rw[hr];rfl
      rcases hop with o2 | ⟨o2,o3⟩ | ⟨o2,o3,o4⟩
      · simp only[bN,aU,aM,aX,cJ,aP.ok,hd,dK,TF,di,and_true,true_and,TJ,pC,false_implies,true_implies,hin,TE,c0,c1,c2,c3,c4,c5,c6,c7,isInt,dA,bp,aJ,cO,aI,w,beq_self_eq_true,cb,hu,TT,o2,he,dr]
        exact⟨rfl,⟨by omega,by omega⟩,h1.to (by simp only[dC,od,Tr]) (by simp only[dC,od,Tr];omega),⟨by omega,by omega⟩,h2.to (by simp only[dC,od,Tr,q1]) (by simp only[dC,od,Tr,q1];omega),⟨by omega,by omega⟩,⟨by omega,by omega⟩,ko (by simp[iE,dj,hle,hr,bt,iP]) (by simp[iE,dj,hle,hr,bt,gL];omega) k⟩
      · simp only[bN,aU,aM,aX,cJ,aP.ok,hd,dK,TF,di,and_true,true_and,TJ,pC,false_implies,true_implies,hin,TE,c0,c1,c2,c3,c4,c5,c6,c7,isInt,dA,bp,aJ,cO,aI,w,beq_self_eq_true,cb,hu,TT,o2,o3,he,dr]
        exact⟨rfl,⟨by omega,by omega⟩,h1.to (by simp only[dC,od,Tr]) (by simp only[dC,od,Tr];omega),⟨by omega,by omega⟩,h2.to (by simp only[dC,od,Tr,q1]) (by simp only[dC,od,Tr,q1];omega),⟨by omega,by omega⟩,⟨by omega,by omega⟩,ko (by simp[iE,dj,hle,hr,bt,iP]) (by simp[iE,dj,hle,hr,bt,gL];omega) k⟩
      · simp only[bN,aU,aM,aX,cJ,aP.ok,hd,dK,TF,di,and_true,true_and,TJ,pC,false_implies,true_implies,hin,TE,c0,c1,c2,c3,c4,c5,c6,c7,isInt,dA,bp,aJ,cO,aI,w,beq_self_eq_true,cb,hu,TT,o2,o3,o4,he,dr]
        exact⟨rfl,⟨by omega,by omega⟩,h1.to (by simp only[dC,od,Tr]) (by simp only[dC,od,Tr];omega),⟨by omega,by omega⟩,h2.to (by simp only[dC,od,Tr,q1]) (by simp only[dC,od,Tr,q1];omega),⟨by omega,by omega⟩,⟨by omega,by omega⟩,ko (by simp[iE,dj,hle,hr,bt,iP]) (by simp[iE,dj,hle,hr,bt,gL];omega) k⟩
  · have dr:(r==1)=false:=by simpa using hr
    by_cases hle:le.length=0
    · have he:decide ((le.length:Int)>0)=false:=decide_eq_false (by omega)
      rcases hop with o2 | ⟨o2,o3⟩ | ⟨o2,o3,o4⟩
      · simp only[bN,aU,aM,aX,cJ,aP.ok,hd,dK,TF,di,and_true,true_and,TJ,pC,false_implies,true_implies,hin,TE,c0,c1,c2,c3,c4,c5,c6,c7,isInt,dA,bp,aJ,cO,aI,w,beq_self_eq_true,cb,hu,TT,o2,he,dr]
        exact⟨rfl,⟨by omega,by omega⟩,h1.to (by simp only[dC,od,Tr]) (by simp only[dC,od,Tr];omega),⟨by omega,by omega⟩,⟨by omega,by omega⟩,ko (by simp[iE,dj,hle,hr,bt,iP]) (by simp[iE,dj,hle,hr,bt,gL];omega) k⟩
      · simp only[bN,aU,aM,aX,cJ,aP.ok,hd,dK,TF,di,and_true,true_and,TJ,pC,false_implies,true_implies,hin,TE,c0,c1,c2,c3,c4,c5,c6,c7,isInt,dA,bp,aJ,cO,aI,w,beq_self_eq_true,cb,hu,TT,o2,o3,he,dr]
        exact⟨rfl,⟨by omega,by omega⟩,h1.to (by simp only[dC,od,Tr]) (by simp only[dC,od,Tr];omega),⟨by omega,by omega⟩,⟨by omega,by omega⟩,ko (by simp[iE,dj,hle,hr,bt,iP]) (by simp[iE,dj,hle,hr,bt,gL];omega) k⟩
      · simp only[bN,aU,aM,aX,cJ,aP.ok,hd,dK,TF,di,and_true,true_and,TJ,pC,false_implies,true_implies,hin,TE,c0,c1,c2,c3,c4,c5,c6,c7,isInt,dA,bp,aJ,cO,aI,w,beq_self_eq_true,cb,hu,TT,o2,o3,o4,he,dr]
        exact⟨rfl,⟨by omega,by omega⟩,h1.to (by simp only[dC,od,Tr]) (by simp only[dC,od,Tr];omega),⟨by omega,by omega⟩,⟨by omega,by omega⟩,ko (by simp[iE,dj,hle,hr,bt,iP]) (by simp[iE,dj,hle,hr,bt,gL];omega) k⟩
    · have he:decide ((le.length:Int)>0)=true:=decide_eq_true (by omega)
      rcases hop with o2 | ⟨o2,o3⟩ | ⟨o2,o3,o4⟩
      · simp only[bN,aU,aM,aX,cJ,aP.ok,hd,dK,TF,di,and_true,true_and,TJ,pC,false_implies,true_implies,hin,TE,c0,c1,c2,c3,c4,c5,c6,c7,isInt,dA,bp,aJ,cO,aI,w,beq_self_eq_true,cb,hu,TT,o2,he,dr]
        exact⟨rfl,⟨by omega,by omega⟩,h1.to (by simp only[dC,od,Tr]) (by simp only[dC,od,Tr];omega),⟨by omega,by omega⟩,h2.to (by simp only[dC,od,Tr,q1]) (by simp only[dC,od,Tr,q1];omega),⟨by omega,by omega⟩,⟨by omega,by omega⟩,ko (by simp[iE,dj,hle,hr,bt,iP]) (by simp[iE,dj,hle,hr,bt,gL];omega) k⟩
      · simp only[bN,aU,aM,aX,cJ,aP.ok,hd,dK,TF,di,and_true,true_and,TJ,pC,false_implies,true_implies,hin,TE,c0,c1,c2,c3,c4,c5,c6,c7,isInt,dA,bp,aJ,cO,aI,w,beq_self_eq_true,cb,hu,TT,o2,o3,he,dr]
        exact⟨rfl,⟨by omega,by omega⟩,h1.to (by simp only[dC,od,Tr]) (by simp only[dC,od,Tr];omega),⟨by omega,by omega⟩,h2.to (by simp only[dC,od,Tr,q1]) (by simp only[dC,od,Tr,q1];omega),⟨by omega,by omega⟩,⟨by omega,by omega⟩,ko (by simp[iE,dj,hle,hr,bt,iP]) (by simp[iE,dj,hle,hr,bt,gL];omega) k⟩
      · simp only[bN,aU,aM,aX,cJ,aP.ok,hd,dK,TF,di,and_true,true_and,TJ,pC,false_implies,true_implies,hin,TE,c0,c1,c2,c3,c4,c5,c6,c7,isInt,dA,bp,aJ,cO,aI,w,beq_self_eq_true,cb,hu,TT,o2,o3,o4,he,dr]
        exact⟨rfl,⟨by omega,by omega⟩,h1.to (by simp only[dC,od,Tr]) (by simp only[dC,od,Tr];omega),⟨by omega,by omega⟩,h2.to (by simp only[dC,od,Tr,q1]) (by simp only[dC,od,Tr,q1];omega),⟨by omega,by omega⟩,⟨by omega,by omega⟩,ko (by simp[iE,dj,hle,hr,bt,iP]) (by simp[iE,dj,hle,hr,bt,gL];omega) k⟩
 |false=>
  have n2:(op==2)=false:=by cases h:op==2 with | false=>rfl | true=>rw[ez.2 (.inl (eq_of_beq h))] at dj;cases dj
  have n3:(op==3)=false:=by cases h:op==3 with | false=>rfl | true=>rw[ez.2 (.inr (.inl (eq_of_beq h)))] at dj;cases dj
  have n4:(op==4)=false:=by cases h:op==4 with | false=>rfl | true=>rw[ez.2 (.inr (.inr (eq_of_beq h)))] at dj;cases dj
  by_cases iM:op=17
  · have zK:(op==17)=true:=by rw[iM];rfl
    have B1:(X.length+1)*1≤70368744177664∧X.length+1≤70368744177664:=⟨by omega,by omega⟩
    simp only[bN,aU,aM,aX,cJ,aP.ok,hd,dK,TF,di,and_true,true_and,TJ,pC,false_implies,true_implies,hin,TE,c0,c1,c2,c3,c4,c5,c6,c7,isInt,dA,bp,aJ,cO,aI,w,beq_self_eq_true,cb,hu,TT,n2,n3,n4,show(op==12)=false from by rw[iM];rfl,show(op==13)=false from by rw[iM];rfl,show(op==16)=false from by rw[iM];rfl,show(op==32)=false from by rw[iM];rfl,show(op==33)=false from by rw[iM];rfl,show(op==34)=false from by rw[iM];rfl,show(op==35)=false from by rw[iM];rfl,show(op==36)=false from by rw[iM];rfl,zK]
    exact⟨rfl,B1,cT wa,⟨by omega,by omega⟩,⟨by omega,by omega⟩,ko (by simp[iE,show dW 17=false from rfl,show dO 17=false from rfl,iM,bt,qU]) (by simp[iE,show dW 17=false from rfl,show dO 17=false from rfl,iM,bt,jU];omega) k⟩
  · have zK:(op==17)=false:=by simpa using iM
    cases oM:gI op with
    |true=>
     have hop:=GZ oM iM
     have fin:=ko (i:=i+1) (n:=X.length+1+jU a) (X:=X++[.sc (.int .u8 ((op%256).toNat:Int))]++qU a) (by simp[iE,dj,iM,oM,bt,qU]) (by simp[iE,dj,iM,oM,bt,jU];omega) k
     have B:(X.length+1+jU a)*1≤70368744177664∧X.length+1+jU a≤70368744177664:=⟨by omega,by omega⟩
     have B1:(X.length+1)*1≤70368744177664∧X.length+1≤70368744177664:=⟨by omega,by omega⟩
     clear k cb
     rcases hop with rfl | rfl | rfl | rfl | rfl | rfl | rfl | rfl
     · simp only[bN,aU,aM,aX,cJ,aP.ok,hd,dK,TF,di,and_true,true_and,TJ,pC,false_implies,true_implies,hin,TE,c0,c1,c2,c3,c4,c5,c6,c7,isInt,dA,bp,aJ,cO,aI,w,beq_self_eq_true,fB,hu,TT]
       exact⟨rfl,B1,cT wa,B,fin⟩
     · simp only[bN,aU,aM,aX,cJ,aP.ok,hd,dK,TF,di,and_true,true_and,TJ,pC,false_implies,true_implies,hin,TE,c0,c1,c2,c3,c4,c5,c6,c7,isInt,dA,bp,aJ,cO,aI,w,beq_self_eq_true,fB,hu,TT]
       exact⟨rfl,B1,cT wa,B,fin⟩
     · simp only[bN,aU,aM,aX,cJ,aP.ok,hd,dK,TF,di,and_true,true_and,TJ,pC,false_implies,true_implies,hin,TE,c0,c1,c2,c3,c4,c5,c6,c7,isInt,dA,bp,aJ,cO,aI,w,beq_self_eq_true,fB,hu,TT]
       exact⟨rfl,B1,cT wa,B,fin⟩
     · simp only[bN,aU,aM,aX,cJ,aP.ok,hd,dK,TF,di,and_true,true_and,TJ,pC,false_implies,true_implies,hin,TE,c0,c1,c2,c3,c4,c5,c6,c7,isInt,dA,bp,aJ,cO,aI,w,beq_self_eq_true,fB,hu,TT]
       exact⟨rfl,B1,cT wa,B,fin⟩
     · simp only[bN,aU,aM,aX,cJ,aP.ok,hd,dK,TF,di,and_true,true_and,TJ,pC,false_implies,true_implies,hin,TE,c0,c1,c2,c3,c4,c5,c6,c7,isInt,dA,bp,aJ,cO,aI,w,beq_self_eq_true,fB,hu,TT]
       exact⟨rfl,B1,cT wa,B,fin⟩
     · simp only[bN,aU,aM,aX,cJ,aP.ok,hd,dK,TF,di,and_true,true_and,TJ,pC,false_implies,true_implies,hin,TE,c0,c1,c2,c3,c4,c5,c6,c7,isInt,dA,bp,aJ,cO,aI,w,beq_self_eq_true,fB,hu,TT]
       exact⟨rfl,B1,cT wa,B,fin⟩
     · simp only[bN,aU,aM,aX,cJ,aP.ok,hd,dK,TF,di,and_true,true_and,TJ,pC,false_implies,true_implies,hin,TE,c0,c1,c2,c3,c4,c5,c6,c7,isInt,dA,bp,aJ,cO,aI,w,beq_self_eq_true,fB,hu,TT]
       exact⟨rfl,B1,cT wa,B,fin⟩
     · simp only[bN,aU,aM,aX,cJ,aP.ok,hd,dK,TF,di,and_true,true_and,TJ,pC,false_implies,true_implies,hin,TE,c0,c1,c2,c3,c4,c5,c6,c7,isInt,dA,bp,aJ,cO,aI,w,beq_self_eq_true,fB,hu,TT]
       exact⟨rfl,B1,cT wa,B,fin⟩
    |false=>
     have m : ∀c:Int,gI c=true→(op==c)=false:=fun c hc=>by cases h:op==c with | false=>rfl | true=>rw[eq_of_beq h,hc] at oM;cases oM
     have B1:(X.length+1)*1≤70368744177664∧X.length+1≤70368744177664:=⟨by omega,by omega⟩
     by_cases oN:op=14
     · have zL:(op==14)=true:=by rw[oN];rfl
       simp only[bN,aU,aM,aX,cJ,aP.ok,hd,dK,TF,di,and_true,true_and,TJ,pC,false_implies,true_implies,hin,TE,c0,c1,c2,c3,c4,c5,c6,c7,isInt,dA,bp,aJ,cO,aI,w,beq_self_eq_true,cb,hu,TT,n2,n3,n4,m 12 rfl,m 13 rfl,m 16 rfl,m 32 rfl,m 33 rfl,m 34 rfl,m 35 rfl,m 36 rfl,zK,zL]
       refine⟨rfl,B1,cT ⟨by omega,by omega⟩,⟨by omega,by omega⟩,?_⟩
       have k2:=I3 (l:=l) (i:=i) (op:=op) (r:=r) (b:=b) (nn:=nn) (ll:=ll) (le:=le) (o:=o) hi wa PO (by omega) tg.length 0 (X++[.sc (.int .u8 ((op%256).toNat:Int))]++qU tg.length) (by omega) (by simp only[dC,od,Tr,q6];omega)
        (ko (by simp[iE,show dW 14=false from rfl,show gI 14=false from rfl,show dO 14=false from rfl,oN,bt,qU]) (by simp[iE,show dW 14=false from rfl,show gI 14=false from rfl,show dO 14=false from rfl,oN,bt,qU]) k)
       simp only[dC,od,Tr,q6] at k2
       exact k2
     · have zL:(op==14)=false:=by simpa using oN
       by_cases h63:op=63
       · have Ex:(op==63)=true:=by rw[h63];rfl
         simp only[bN,aU,aM,aX,cJ,aP.ok,hd,dK,TF,di,and_true,true_and,TJ,pC,false_implies,true_implies,hin,TE,c0,c1,c2,c3,c4,c5,c6,c7,isInt,dA,bp,aJ,cO,aI,w,beq_self_eq_true,cb,hu,TT,n2,n3,n4,m 12 rfl,m 13 rfl,m 16 rfl,m 32 rfl,m 33 rfl,m 34 rfl,m 35 rfl,m 36 rfl,zK,zL,Ex]
         exact⟨rfl,B1,⟨by omega,by omega⟩,ko (by simp[iE,show dW 63=false from rfl,show gI 63=false from rfl,show dO 63=false from rfl,h63,bt]) (by simp[iE,show dW 63=false from rfl,show gI 63=false from rfl,show dO 63=false from rfl,h63,bt]) k⟩
       · have Ex:(op==63)=false:=by simpa using h63
         by_cases Eh:op=64
         · have Hp:(op==64)=true:=by rw[Eh];rfl
           simp only[bN,aU,aM,aX,cJ,aP.ok,hd,dK,TF,di,and_true,true_and,TJ,pC,false_implies,true_implies,hin,TE,c0,c1,c2,c3,c4,c5,c6,c7,isInt,dA,bp,aJ,cO,aI,w,beq_self_eq_true,cb,hu,TT,n2,n3,n4,m 12 rfl,m 13 rfl,m 16 rfl,m 32 rfl,m 33 rfl,m 34 rfl,m 35 rfl,m 36 rfl,zK,zL,Ex,Hp]
           exact⟨rfl,B1,⟨by omega,by omega⟩,ko (by simp[iE,show dW 64=false from rfl,show gI 64=false from rfl,show dO 64=false from rfl,Eh,bt]) (by simp[iE,show dW 64=false from rfl,show gI 64=false from rfl,show dO 64=false from rfl,Eh,bt]) k⟩
         · have Hp:(op==64)=false:=by simpa using Eh
           by_cases vT:op=65
           · have Hq:(op==65)=true:=by rw[vT];rfl
             simp only[bN,aU,aM,aX,cJ,aP.ok,hd,dK,TF,di,and_true,true_and,TJ,pC,false_implies,true_implies,hin,TE,c0,c1,c2,c3,c4,c5,c6,c7,isInt,dA,bp,aJ,cO,aI,w,beq_self_eq_true,cb,hu,TT,n2,n3,n4,m 12 rfl,m 13 rfl,m 16 rfl,m 32 rfl,m 33 rfl,m 34 rfl,m 35 rfl,m 36 rfl,zK,zL,Ex,Hp,Hq]
             exact⟨rfl,B1,Ed wn,⟨by omega,by omega⟩,ko (by simp[iE,show dW 65=false from rfl,show gI 65=false from rfl,show dO 65=false from rfl,vT,bt,qS]) (by simp[iE,show dW 65=false from rfl,show gI 65=false from rfl,show dO 65=false from rfl,vT,bt,jS];omega) k⟩
           · have Hq:(op==65)=false:=by simpa using vT
             cases hst:dO op with
             |true=>
              rw[hst] at a1
              simp only[bN,aU,aM,aX,cJ,aP.ok,hd,dK,TF,di,and_true,true_and,TJ,pC,false_implies,true_implies,hin,TE,c0,c1,c2,c3,c4,c5,c6,c7,isInt,dA,bp,aJ,cO,aI,w,beq_self_eq_true,cb,hu,TT,n2,n3,n4,m 12 rfl,m 13 rfl,m 16 rfl,m 32 rfl,m 33 rfl,m 34 rfl,m 35 rfl,m 36 rfl,zK,zL,Ex,Hp,Hq]
              exact⟨rfl,B1,a1,cT wa,⟨by omega,by omega⟩,cT wb,⟨by omega,by omega⟩,ko (by simp[iE,dj,iM,oM,oN,h63,Eh,vT,hst,bt,qU]) (by simp[iE,dj,iM,oM,oN,h63,Eh,vT,hst,bt,jU];omega) k⟩
             |false=>
              rw[hst] at a1
              simp only[bN,aU,aM,aX,cJ,aP.ok,hd,dK,TF,di,and_true,true_and,TJ,pC,false_implies,true_implies,hin,TE,c0,c1,c2,c3,c4,c5,c6,c7,isInt,dA,bp,aJ,cO,aI,w,beq_self_eq_true,cb,hu,TT,n2,n3,n4,m 12 rfl,m 13 rfl,m 16 rfl,m 32 rfl,m 33 rfl,m 34 rfl,m 35 rfl,m 36 rfl,zK,zL,Ex,Hp,Hq]
              exact⟨rfl,B1,a1,ko (by simp[iE,dj,iM,oM,oN,h63,Eh,vT,hst,bt]) (by simp[iE,dj,iM,oM,oN,h63,Eh,vT,hst,bt]) k⟩
theorem G1 {l:List Ins} (hw:zH l) (hc:eT l≤1000000) (IH : ∀x∈l,zG x.l∧zG x.e) : ∀(n i:Nat) (X:List PV),i+n=l.length→X.length+20*eT (l.drop i)≤1000000000 →
  dN ae env (Em l X i X.length) (.ret (.os (some 1) (X++bt (gw (l.drop i))).length 1 (X++bt (gw (l.drop i)))) [.dead,.tok]):=by
 have Lx:=su l
 intro n
 induction n with
 |zero=>
  intro i X hi hX
  have hd:decide ((i:Int)<(l.length:Int))=false:=decide_eq_false (by omega)
  refine aD dy (Bt l X.length X i 0 0 0 0 0 [] [] [] 0 false jU jS qU qS jL qL) ?_
  simp only[bN,aU,aM,aX,cJ,aP.ok,hd,and_true,pC,false_implies,true_implies,true_and]
  rw[Uc (by omega)]
  exact Pw (by simp[gw,bt]) (by simp[gw,bt]) rfl
 |succ n ih=>
  intro i X hi hX
  have Bw:i<l.length:=by omega
  have hmem:l[i]∈l:=fg Bw
  have hcx:=qc hmem
  have hb:=De l[i]
  have hcd:eT (l.drop i)=lD l[i]+eT (l.drop (i+1)):=by rw[Ud Bw,eT]
  have k:=ih (i+1) (X++bt (iE l[i])) (by omega) (by rw[dC,dB];omega)
  rw[show(X++bt (iE l[i]))++bt (gw (l.drop (i+1)))=X++bt (gw (l.drop i)) by rw[Gv Bw,xX,List.append_assoc]] at k
  have MQ:l[i]? = some l[i]:=List.getElem?_eq_getElem Bw
  have Lj:=nK hw hmem
  have LK:=IH l[i] hmem
  generalize l[i]=x at *
  obtain⟨op,r,a,b,nn,tg,ll,le⟩:=x
  exact G0 MQ (by omega) Lj (by omega) (by omega) LK.1 LK.2 k
theorem G2 : ∀l:List Ins,zH l→eT l≤1000000→zG l:=by
 refine Ie fun l IH hw hc X hX=> ?_
 have R6 : ∀x∈l,zG x.l∧zG x.e:=fun x hx=>by
  have h2:=nK hw hx
  have h3:=qc hx
  have h4:=IH x hx
  obtain⟨op,r,a,b,nn,tg,ll,le⟩:=x
  simp only[Ins.l,Ins.e,lD,FP] at h2 h3 h4 ⊢
  exact⟨h4.1 h2.2.2.2.2.2.2.1.2 (by omega),h4.2 h2.2.2.2.2.2.2.2.2 (by omega)⟩
 have k:=G1 hw hc R6 l.length 0 X (by omega) (by rw[Tq];exact hX)
 rw[Tq,dC,dB] at k
 rw[gL,iP]
 refine az dy (I2 l X.length X) ?_
 simp only[GY,aP.ok]
 exact dN.F9 (r:=[]) rfl rfl k
theorem I4 {l:List Ins} (hw:zH l) (hc:eT l≤1000000):aO ae env 32 [.os none 0 0 [],aL l] [] (.os (some 1) (gw l).length 1 (bt (gw l))) [.dead,.tok]:=by
 have h:=G2 l hw hc [] (by simp only[Tr];omega)
 rw[gL,iP,Tr,Nat.zero_add,List.nil_append] at h
 exact aO.oJ (Nat.le_refl 1) h
def tj:Env where
 cC:=sq tabs
 wr f d:=(a6 f 72&&a6 d 9)||(a6 f 27&&(a6 d 10||a6 d 67||a6 d 84||a6 d 197||a6 d 164||a6 d 176))
 keep _ _:=none
def En:cr:=⟨82,[.p (.sc (.string ⟨#[101,113,122,32,101,113,32,110,101,32,108,116,95,115,32,108,116,95,117,32,103,116,95,115,32,103,116,95,117,32,108,101,95,115,32,108,101,95,117,32,103,101,95,115,32,103,101,95,117]⟩))],[],.p (.ps 11 1 [.sc (.string ⟨#[101,113,122]⟩),.sc (.string ⟨#[101,113]⟩),.sc (.string ⟨#[110,101]⟩),.sc (.string ⟨#[108,116,95,115]⟩),.sc (.string ⟨#[108,116,95,117]⟩),.sc (.string ⟨#[103,116,95,115]⟩),.sc (.string ⟨#[103,116,95,117]⟩),.sc (.string ⟨#[108,101,95,115]⟩),.sc (.string ⟨#[108,101,95,117]⟩),.sc (.string ⟨#[103,101,95,115]⟩),.sc (.string ⟨#[103,101,95,117]⟩)]),[]⟩
theorem PR:aO ae tj En.g En.args En.m En.v En.m':=fu dy (K:=[]) nH (n:=10000000) (by kernel_rfl)
def Ll:List cr:=En::[]
theorem G3:fc ae tj Ll:=fU PR nH
def Eo:cr:=⟨82,[.p (.sc (.string ⟨#[99,108,122,32,99,116,122,32,112,111,112,99,110,116,32,97,100,100,32,115,117,98,32,109,117,108,32,100,105,118,95,115,32,100,105,118,95,117,32,114,101,109,95,115,32,114,101,109,95,117,32,97,110,100,32,111,114,32,120,111,114,32,115,104,108,32,115,104,114,95,115,32,115,104,114,95,117,32,114,111,116,108,32,114,111,116,114]⟩))],[],.p (.ps 18 1 [.sc (.string ⟨#[99,108,122]⟩),.sc (.string ⟨#[99,116,122]⟩),.sc (.string ⟨#[112,111,112,99,110,116]⟩),.sc (.string ⟨#[97,100,100]⟩),.sc (.string ⟨#[115,117,98]⟩),.sc (.string ⟨#[109,117,108]⟩),.sc (.string ⟨#[100,105,118,95,115]⟩),.sc (.string ⟨#[100,105,118,95,117]⟩),.sc (.string ⟨#[114,101,109,95,115]⟩),.sc (.string ⟨#[114,101,109,95,117]⟩),.sc (.string ⟨#[97,110,100]⟩),.sc (.string ⟨#[111,114]⟩),.sc (.string ⟨#[120,111,114]⟩),.sc (.string ⟨#[115,104,108]⟩),.sc (.string ⟨#[115,104,114,95,115]⟩),.sc (.string ⟨#[115,104,114,95,117]⟩),.sc (.string ⟨#[114,111,116,108]⟩),.sc (.string ⟨#[114,111,116,114]⟩)]),[]⟩
theorem PS:aO ae tj Eo.g Eo.args Eo.m Eo.v Eo.m':=fu dy (K:=Ll) G3 (n:=10000000) (by kernel_rfl)
def Lm:List cr:=Eo::Ll
theorem G4:fc ae tj Lm:=fU PS G3
def Ep:cr:=⟨63,[],[],.agg [.p (.sc (.string ⟨#[117,110,114,101,97,99,104,97,98,108,101]⟩)),.p (.sc (.string ⟨#[110,111,112]⟩)),.p (.sc (.string ⟨#[98,108,111,99,107]⟩)),.p (.sc (.string ⟨#[108,111,111,112]⟩)),.p (.sc (.string ⟨#[105,102]⟩)),.p (.sc (.string ⟨#[]⟩)),.p (.sc (.string ⟨#[]⟩)),.p (.sc (.string ⟨#[]⟩)),.p (.sc (.string ⟨#[]⟩)),.p (.sc (.string ⟨#[]⟩)),.p (.sc (.string ⟨#[]⟩)),.p (.sc (.string ⟨#[]⟩)),.p (.sc (.string ⟨#[98,114]⟩)),.p (.sc (.string ⟨#[98,114,95,105,102]⟩)),.p (.sc (.string ⟨#[98,114,95,116,97,98,108,101]⟩)),.p (.sc (.string ⟨#[114,101,116,117,114,110]⟩)),.p (.sc (.string ⟨#[99,97,108,108]⟩)),.p (.sc (.string ⟨#[99,97,108,108,95,105,110,100,105,114,101,99,116]⟩)),.p (.sc (.string ⟨#[]⟩)),.p (.sc (.string ⟨#[]⟩)),.p (.sc (.string ⟨#[]⟩)),.p (.sc (.string ⟨#[]⟩)),.p (.sc (.string ⟨#[]⟩)),.p (.sc (.string ⟨#[]⟩)),.p (.sc (.string ⟨#[]⟩)),.p (.sc (.string ⟨#[]⟩)),.p (.sc (.string ⟨#[100,114,111,112]⟩)),.p (.sc (.string ⟨#[115,101,108,101,99,116]⟩)),.p (.sc (.string ⟨#[]⟩)),.p (.sc (.string ⟨#[]⟩)),.p (.sc (.string ⟨#[]⟩)),.p (.sc (.string ⟨#[]⟩)),.p (.sc (.string ⟨#[108,111,99,97,108,46,103,101,116]⟩)),.p (.sc (.string ⟨#[108,111,99,97,108,46,115,101,116]⟩)),.p (.sc (.string ⟨#[108,111,99,97,108,46,116,101,101]⟩)),.p (.sc (.string ⟨#[103,108,111,98,97,108,46,103,101,116]⟩)),.p (.sc (.string ⟨#[103,108,111,98,97,108,46,115,101,116]⟩)),.p (.sc (.string ⟨#[]⟩)),.p (.sc (.string ⟨#[]⟩)),.p (.sc (.string ⟨#[]⟩)),.p (.sc (.string ⟨#[105,51,50,46,108,111,97,100]⟩)),.p (.sc (.string ⟨#[]⟩)),.p (.sc (.string ⟨#[]⟩)),.p (.sc (.string ⟨#[]⟩)),.p (.sc (.string ⟨#[105,51,50,46,108,111,97,100,56,95,115]⟩)),.p (.sc (.string ⟨#[105,51,50,46,108,111,97,100,56,95,117]⟩)),.p (.sc (.string ⟨#[105,51,50,46,108,111,97,100,49,54,95,115]⟩)),.p (.sc (.string ⟨#[105,51,50,46,108,111,97,100,49,54,95,117]⟩)),.p (.sc (.string ⟨#[]⟩)),.p (.sc (.string ⟨#[]⟩)),.p (.sc (.string ⟨#[]⟩)),.p (.sc (.string ⟨#[]⟩)),.p (.sc (.string ⟨#[]⟩)),.p (.sc (.string ⟨#[]⟩)),.p (.sc (.string ⟨#[105,51,50,46,115,116,111,114,101]⟩)),.p (.sc (.string ⟨#[]⟩)),.p (.sc (.string ⟨#[]⟩)),.p (.sc (.string ⟨#[]⟩)),.p (.sc (.string ⟨#[105,51,50,46,115,116,111,114,101,56]⟩)),.p (.sc (.string ⟨#[105,51,50,46,115,116,111,114,101,49,54]⟩)),.p (.sc (.string ⟨#[]⟩)),.p (.sc (.string ⟨#[]⟩)),.p (.sc (.string ⟨#[]⟩)),.p (.sc (.string ⟨#[109,101,109,111,114,121,46,115,105,122,101]⟩)),.p (.sc (.string ⟨#[109,101,109,111,114,121,46,103,114,111,119]⟩)),.p (.sc (.string ⟨#[105,51,50,46,99,111,110,115,116]⟩)),.p (.sc (.string ⟨#[]⟩)),.p (.sc (.string ⟨#[]⟩)),.p (.sc (.string ⟨#[]⟩)),.p (.sc (.string ⟨#[105,51,50,46,101,113,122]⟩)),.p (.sc (.string ⟨#[105,51,50,46,101,113]⟩)),.p (.sc (.string ⟨#[105,51,50,46,110,101]⟩)),.p (.sc (.string ⟨#[105,51,50,46,108,116,95,115]⟩)),.p (.sc (.string ⟨#[105,51,50,46,108,116,95,117]⟩)),.p (.sc (.string ⟨#[105,51,50,46,103,116,95,115]⟩)),.p (.sc (.string ⟨#[105,51,50,46,103,116,95,117]⟩)),.p (.sc (.string ⟨#[105,51,50,46,108,101,95,115]⟩)),.p (.sc (.string ⟨#[105,51,50,46,108,101,95,117]⟩)),.p (.sc (.string ⟨#[105,51,50,46,103,101,95,115]⟩)),.p (.sc (.string ⟨#[105,51,50,46,103,101,95,117]⟩)),.p (.sc (.string ⟨#[]⟩)),.p (.sc (.string ⟨#[]⟩)),.p (.sc (.string ⟨#[]⟩)),.p (.sc (.string ⟨#[]⟩)),.p (.sc (.string ⟨#[]⟩)),.p (.sc (.string ⟨#[]⟩)),.p (.sc (.string ⟨#[]⟩)),.p (.sc (.string ⟨#[]⟩)),.p (.sc (.string ⟨#[]⟩)),.p (.sc (.string ⟨#[]⟩)),.p (.sc (.string ⟨#[]⟩)),.p (.sc (.string ⟨#[]⟩)),.p (.sc (.string ⟨#[]⟩)),.p (.sc (.string ⟨#[]⟩)),.p (.sc (.string ⟨#[]⟩)),.p (.sc (.string ⟨#[]⟩)),.p (.sc (.string ⟨#[]⟩)),.p (.sc (.string ⟨#[]⟩)),.p (.sc (.string ⟨#[]⟩)),.p (.sc (.string ⟨#[]⟩)),.p (.sc (.string ⟨#[]⟩)),.p (.sc (.string ⟨#[]⟩)),.p (.sc (.string ⟨#[]⟩)),.p (.sc (.string ⟨#[105,51,50,46,99,108,122]⟩)),.p (.sc (.string ⟨#[105,51,50,46,99,116,122]⟩)),.p (.sc (.string ⟨#[105,51,50,46,112,111,112,99,110,116]⟩)),.p (.sc (.string ⟨#[105,51,50,46,97,100,100]⟩)),.p (.sc (.string ⟨#[105,51,50,46,115,117,98]⟩)),.p (.sc (.string ⟨#[105,51,50,46,109,117,108]⟩)),.p (.sc (.string ⟨#[105,51,50,46,100,105,118,95,115]⟩)),.p (.sc (.string ⟨#[105,51,50,46,100,105,118,95,117]⟩)),.p (.sc (.string ⟨#[105,51,50,46,114,101,109,95,115]⟩)),.p (.sc (.string ⟨#[105,51,50,46,114,101,109,95,117]⟩)),.p (.sc (.string ⟨#[105,51,50,46,97,110,100]⟩)),.p (.sc (.string ⟨#[105,51,50,46,111,114]⟩)),.p (.sc (.string ⟨#[105,51,50,46,120,111,114]⟩)),.p (.sc (.string ⟨#[105,51,50,46,115,104,108]⟩)),.p (.sc (.string ⟨#[105,51,50,46,115,104,114,95,115]⟩)),.p (.sc (.string ⟨#[105,51,50,46,115,104,114,95,117]⟩)),.p (.sc (.string ⟨#[105,51,50,46,114,111,116,108]⟩)),.p (.sc (.string ⟨#[105,51,50,46,114,111,116,114]⟩)),.p (.sc (.string ⟨#[]⟩)),.p (.sc (.string ⟨#[]⟩)),.p (.sc (.string ⟨#[]⟩)),.p (.sc (.string ⟨#[]⟩)),.p (.sc (.string ⟨#[]⟩)),.p (.sc (.string ⟨#[]⟩)),.p (.sc (.string ⟨#[]⟩)),.p (.sc (.string ⟨#[]⟩)),.p (.sc (.string ⟨#[]⟩)),.p (.sc (.string ⟨#[]⟩)),.p (.sc (.string ⟨#[]⟩)),.p (.sc (.string ⟨#[]⟩)),.p (.sc (.string ⟨#[]⟩)),.p (.sc (.string ⟨#[]⟩)),.p (.sc (.string ⟨#[]⟩)),.p (.sc (.string ⟨#[]⟩)),.p (.sc (.string ⟨#[]⟩)),.p (.sc (.string ⟨#[]⟩)),.p (.sc (.string ⟨#[]⟩)),.p (.sc (.string ⟨#[]⟩)),.p (.sc (.string ⟨#[]⟩)),.p (.sc (.string ⟨#[]⟩)),.p (.sc (.string ⟨#[]⟩)),.p (.sc (.string ⟨#[]⟩)),.p (.sc (.string ⟨#[]⟩)),.p (.sc (.string ⟨#[]⟩)),.p (.sc (.string ⟨#[]⟩)),.p (.sc (.string ⟨#[]⟩)),.p (.sc (.string ⟨#[]⟩)),.p (.sc (.string ⟨#[]⟩)),.p (.sc (.string ⟨#[]⟩)),.p (.sc (.string ⟨#[]⟩)),.p (.sc (.string ⟨#[]⟩)),.p (.sc (.string ⟨#[]⟩)),.p (.sc (.string ⟨#[]⟩)),.p (.sc (.string ⟨#[]⟩)),.p (.sc (.string ⟨#[]⟩)),.p (.sc (.string ⟨#[]⟩)),.p (.sc (.string ⟨#[]⟩)),.p (.sc (.string ⟨#[]⟩)),.p (.sc (.string ⟨#[]⟩)),.p (.sc (.string ⟨#[]⟩)),.p (.sc (.string ⟨#[]⟩)),.p (.sc (.string ⟨#[]⟩)),.p (.sc (.string ⟨#[]⟩)),.p (.sc (.string ⟨#[]⟩)),.p (.sc (.string ⟨#[]⟩)),.p (.sc (.string ⟨#[]⟩)),.p (.sc (.string ⟨#[]⟩)),.p (.sc (.string ⟨#[]⟩)),.p (.sc (.string ⟨#[]⟩)),.p (.sc (.string ⟨#[]⟩)),.p (.sc (.string ⟨#[]⟩)),.p (.sc (.string ⟨#[]⟩)),.p (.sc (.string ⟨#[]⟩)),.p (.sc (.string ⟨#[]⟩)),.p (.sc (.string ⟨#[]⟩)),.p (.sc (.string ⟨#[]⟩)),.p (.sc (.string ⟨#[]⟩)),.p (.sc (.string ⟨#[]⟩)),.p (.sc (.string ⟨#[]⟩)),.p (.sc (.string ⟨#[]⟩)),.p (.sc (.string ⟨#[]⟩)),.p (.sc (.string ⟨#[]⟩)),.p (.sc (.string ⟨#[]⟩)),.p (.sc (.string ⟨#[]⟩)),.p (.sc (.string ⟨#[]⟩)),.p (.sc (.string ⟨#[]⟩)),.p (.sc (.string ⟨#[]⟩)),.p (.sc (.string ⟨#[]⟩)),.p (.sc (.string ⟨#[]⟩)),.p (.sc (.string ⟨#[]⟩)),.p (.sc (.string ⟨#[]⟩)),.p (.sc (.string ⟨#[]⟩)),.p (.sc (.string ⟨#[]⟩)),.p (.sc (.string ⟨#[]⟩)),.p (.sc (.string ⟨#[]⟩)),.p (.sc (.string ⟨#[]⟩)),.p (.sc (.string ⟨#[]⟩)),.p (.sc (.string ⟨#[]⟩)),.p (.sc (.string ⟨#[]⟩)),.p (.sc (.string ⟨#[]⟩)),.p (.sc (.string ⟨#[]⟩)),.p (.sc (.string ⟨#[]⟩)),.p (.sc (.string ⟨#[]⟩)),.p (.sc (.string ⟨#[]⟩)),.p (.sc (.string ⟨#[]⟩)),.p (.sc (.string ⟨#[]⟩)),.p (.sc (.string ⟨#[]⟩)),.p (.sc (.string ⟨#[]⟩)),.p (.sc (.string ⟨#[]⟩)),.p (.sc (.string ⟨#[]⟩)),.p (.sc (.string ⟨#[]⟩)),.p (.sc (.string ⟨#[]⟩)),.p (.sc (.string ⟨#[]⟩)),.p (.sc (.string ⟨#[]⟩)),.p (.sc (.string ⟨#[]⟩)),.p (.sc (.string ⟨#[]⟩)),.p (.sc (.string ⟨#[]⟩)),.p (.sc (.string ⟨#[]⟩)),.p (.sc (.string ⟨#[]⟩)),.p (.sc (.string ⟨#[]⟩)),.p (.sc (.string ⟨#[]⟩)),.p (.sc (.string ⟨#[]⟩)),.p (.sc (.string ⟨#[]⟩)),.p (.sc (.string ⟨#[]⟩)),.p (.sc (.string ⟨#[]⟩)),.p (.sc (.string ⟨#[]⟩)),.p (.sc (.string ⟨#[]⟩)),.p (.sc (.string ⟨#[]⟩)),.p (.sc (.string ⟨#[]⟩)),.p (.sc (.string ⟨#[]⟩)),.p (.sc (.string ⟨#[]⟩)),.p (.sc (.string ⟨#[]⟩)),.p (.sc (.string ⟨#[]⟩)),.p (.sc (.string ⟨#[]⟩)),.p (.sc (.string ⟨#[]⟩)),.p (.sc (.string ⟨#[]⟩)),.p (.sc (.string ⟨#[]⟩)),.p (.sc (.string ⟨#[]⟩)),.p (.sc (.string ⟨#[]⟩)),.p (.sc (.string ⟨#[]⟩)),.p (.sc (.string ⟨#[]⟩)),.p (.sc (.string ⟨#[]⟩)),.p (.sc (.string ⟨#[]⟩)),.p (.sc (.string ⟨#[]⟩)),.p (.sc (.string ⟨#[]⟩)),.p (.sc (.string ⟨#[]⟩)),.p (.sc (.string ⟨#[]⟩)),.p (.sc (.string ⟨#[]⟩)),.p (.sc (.string ⟨#[]⟩)),.p (.sc (.string ⟨#[]⟩)),.p (.sc (.string ⟨#[]⟩)),.p (.sc (.string ⟨#[]⟩)),.p (.sc (.string ⟨#[]⟩))],[]⟩
theorem PT:aO ae tj Ep.g Ep.args Ep.m Ep.v Ep.m':=fu dy (K:=Lm) G4 (n:=10000000) (by kernel_rfl)
def Ln:List cr:=Ep::Lm
theorem G5:fc ae tj Ln:=fU PT G4
def Er:cr:=⟨31,[.os none 2 8 [.sc (.int .i64 65),.sc (.int .i64 0),.sc (.int .u32 0),.sc (.int .u32 0),.sc (.int .i32 (-1)),.ps 0 0 [],.ps 0 0 [],.ps 0 0 [],.sc (.int .i64 26),.sc (.int .i64 0),.sc (.int .u32 0),.sc (.int .u32 0),.sc (.int .i32 0),.ps 0 0 [],.ps 0 0 [],.ps 0 0 []]],[],.p (.sc (.int .i64 0)),[]⟩
theorem PU:aO ae tj Er.g Er.args Er.m Er.v Er.m':=fu dy (K:=Ln) G5 (n:=10000000) (by kernel_rfl)
def Lo:List cr:=Er::Ln
theorem G6:fc ae tj Lo:=fU PU G5
def Es:cr:=⟨27,[.mp 0 0],[.ac [.os none 5 1 [.sc (.int .u8 4),.sc (.int .u8 64),.sc (.int .u8 5),.sc (.int .u8 11),.sc (.int .u8 11)],.p (.sc (.int .i64 0)),.p (.sc (.int .i64 0)),.p (.sc (.int .i64 0))]],.ms 1 0 1 8 none,[.ac [.os none 5 1 [.sc (.int .u8 4),.sc (.int .u8 64),.sc (.int .u8 5),.sc (.int .u8 11),.sc (.int .u8 11)],.p (.sc (.int .i64 5)),.p (.sc (.int .i64 0)),.p (.sc (.int .i64 0))],.ob (.gr 62 true) [.p (.sc (.int .i64 4)),.p (.sc (.int .i64 0)),.p (.sc (.int .u32 0)),.p (.sc (.int .u32 0)),.p (.sc (.int .i32 0)),.p (.ps 0 0 []),.p (.ps 0 0 []),.p (.ps 0 0 [])]]⟩
theorem PW:aO ae tj Es.g Es.args Es.m Es.v Es.m':=fu dy (K:=Lo) G6 (n:=10000000) (by kernel_rfl)
def NN:List cr:=Es::Lo
theorem Lp:fc ae tj NN:=fU PW G6
theorem Lq:aO ae tj 12 [] [] (.p (.sc (.bool true))) []:=fu dy (K:=NN) Lp (n:=10000000) (by kernel_rfl)
theorem Cx:aO ae env 12 [] [] (sB true) []:=aO.env (E:=tj) Lq fun _ _ q=>q
theorem _root_.Go.Am.bZ.env {P:Program} {E E':Env} (he:E.cC=E'.cC) {g:Gh} {c:bA} {fr:Frame} {w:World}:bZ P E g c fr w→bZ P E' g c fr w:=by
 have key : ∀{st:St} {a:Act},bR E g st a w→bR E' g st a w:=fun h=>⟨h.tm,h.nt,h.rel,h.fix,fun i cs hi=>h.cC i cs (by rw[he];exact hi)⟩
 unfold bZ
 split
 · exact id
 · exact id
 · rintro ⟨b,a,t,cv,h1,h2,h3,h4,h5,h6⟩
   exact⟨b,a,t,cv,h1,h2,h3,h4,key h5,h6⟩
 · rintro ⟨b,a,t,h1,h2,h3,h4,h5,h6,h7⟩
   exact⟨b,a,t,h1,h2,h3,h4,h5,h6,key h7⟩
 · rintro ⟨b,a,h1,h2,h3,h4,h5,h6⟩
   exact⟨b,a,h1,h2,h3,h4,key h5,h6⟩
theorem _root_.Go.Am.dN.env {P:Program} {E E':Env} (he:E.cC=E'.cC) {c:bA} {o:Out} (h:dN P E c o):dN P E' c o:=
 fun g fr w cs hr=>h g fr w cs (bZ.env he.symm hr)
end Go.Proofs.YtddfgnmjecogdaaDoor.N
end
