/-
The program's bytes of instructions: the walk.
-/
import Derived.Test.YtddfgnmjecogdaaDoorMK
section
set_option linter.unusedSimpArgs false
set_option linter.unusedVariables false
namespace Go.Proofs.YtddfgnmjecogdaaDoor.N
open Go Go.Am
def MQ (l:List Ins) (k:Nat) (X:List PV) (i:Nat) (op r a b nn:Int) (tg:List Int) (ll le:List Ins) (al:Int) (st:Bool) (J J':Int→Nat) (Q Q':Int→List PV) (JJ:List PV→Nat) (QQ:List PV→List PV) (f:FuncId) (_:List AV) (m:Mem):Option (AV×Mem):=cond (Nat.beq f 53) (some (.aO [sI .u32 al,sB st],m)) none
def MR (l:List Ins) (k:Nat) (X:List PV) (i:Nat) (op r a b nn:Int) (tg:List Int) (ll le:List Ins) (al:Int) (st:Bool) (J J':Int→Nat) (Q Q':Int→List PV) (JJ:List PV→Nat) (QQ:List PV→List PV) (f:FuncId) (args:List AV) (m:Mem):Option (AV×Mem):=
 cond (Nat.beq f 35) (match args with | [.p (.sc (.int _ n))]=>some (.p (.ps (J n) 1 (Q n)),m) | _=>none)
 (cond (Nat.beq f 52) (match args with | [.p (.sc (.int _ n))]=>some (.p (.ps (J' n) 1 (Q' n)),m) | _=>none)
 (cond (Nat.beq f 32) (match args with | [.os (some _) k' _ X',.p (.ps _ _ cs)]=>some (.os (some 1) (k'+JJ cs) 1 (X'++QQ cs),[.dead,.tok]) | _=>none) none))
def MS (l:List Ins) (k:Nat) (X:List PV) (i:Nat) (op r a b nn:Int) (tg:List Int) (ll le:List Ins) (al:Int) (st:Bool) (J J':Int→Nat) (Q Q':Int→List PV) (JJ:List PV→Nat) (QQ:List PV→List PV):FuncId→Nat→Nat→Option (AV→AV):=fk [(32,5,1,iV op r a b nn tg ll le),(32,47,0,sI .i64 ((i+1:Nat):Int))]
def KY (l:List Ins) (k:Nat) (X:List PV) (i j:Nat) (op r a b nn:Int) (tg:List Int) (ll le:List Ins) (t:Int) (J:Int→Nat) (Q:Int→List PV):FuncId→Nat→Nat→Option (AV→AV):=fk [(32,38,1,sI .u32 t),(32,40,0,sI .i64 ((j+1:Nat):Int)),(32,47,0,sI .i64 ((i+1:Nat):Int))]
def KZ (l:List Ins) (k:Nat) (X:List PV) (i j:Nat) (op r a b nn:Int) (tg:List Int) (ll le:List Ins) (t:Int) (J:Int→Nat) (Q:Int→List PV) (f:FuncId) (args:List AV) (m:Mem):Option (AV×Mem):=
 cond (Nat.beq f 35) (match args with | [.p (.sc (.int _ n))]=>some (.p (.ps (J n) 1 (Q n)),m) | _=>none) none
noncomputable def Je:dR:=cr bk aW [(32,0)] [] []
def K0:Sc:= .fin
noncomputable def CZ (l:List Ins) (k:Nat) (X:List PV):Tree:=
 (.at (an Tryd.prog env 32 0 [AV.mp 1 0,AV.fn (Fn.func 51) [] [AV.mp 1 0],AV.p (PV.ps l.length 8 (aa l)),AV.p (PV.sc (Value.int IntKind.i64 (↑l.length:Int))),AV.p (PV.sc (Value.int IntKind.i64 0))] ([av.tok,av.ac [AV.os (Option.some 0) k 1 X]]) 1 130))
theorem Eo (l:List Ins) (k:Nat) (X:List PV):bC Tryd.prog env Je 1000000 32 ([AV.os (Option.some 0) k 1 X,aL l]) ([av.tok]) K0=CZ l k X:=by kernel_rfl
noncomputable def GW (l:List Ins) (k:Nat) (X:List PV) (i:Nat) (op:Int) (r:Int) (a:Int) (b:Int) (nn:Int) (tg:List Int) (ll:List Ins) (le:List Ins) (al:Int) (st:Bool) (J:Int→Nat) (J':Int→Nat) (Q:Int→List PV) (Q':Int→List PV) (JJ:List PV→Nat) (QQ:List PV→List PV):dR:=qD (MQ l k X i op r a b nn tg ll le al st J J' Q Q' JJ QQ) (MR l k X i op r a b nn tg ll le al st J J' Q Q' JJ QQ) [(32,0),(32,17)] [(32,0,1),(32,0,2),(32,0,4),(32,0,5),(32,0,6),(32,0,3),(32,0,7),(32,0,14),(32,0,8),(32,0,9),(32,0,10),(32,0,11),(32,0,12),(32,0,13),(32,0,15),(32,0,16),(32,0,19),(32,0,20),(32,0,21),(32,0,22)] [(32,5,0),(32,5,1),(32,6,5),(32,0,6),(32,0,7),(32,21,2),(51,0,0),(32,33,2),(32,44,2),(32,0,22)] (MS l k X i op r a b nn tg ll le al st J J' Q Q' JJ QQ)
def Jf:Sc:=(.fork (.fork (.yes .fin) (.fork (.yes .fin) (.fork .fin (.fork (.yes .fin) (.fork (.yes .fin) (.fork (.yes .fin) (.fork (.yes .fin) (.fork (.yes .fin) (.fork (.yes .fin) (.fork (.yes .fin) (.fork .fin (.fork .fin (.fork .fin (.fork (.yes .fin) .fin)))))))))))))) .fin)
noncomputable def aX (l:List Ins) (k:Nat) (X:List PV) (i:Nat) (op:Int) (r:Int) (a:Int) (b:Int) (nn:Int) (tg:List Int) (ll:List Ins) (le:List Ins) (al:Int) (st:Bool) (J:Int→Nat) (J':Int→Nat) (Q:Int→List PV) (Q':Int→List PV) (JJ:List PV→Nat) (QQ:List PV→List PV):Tree:=
 (.test (decide ((↑i:Int)<(↑l.length:Int)))
  (.must (ep (↑i:Int) l.length&&true&&true)
   (.must (isInt IntKind.i64 ((aa l).getD ((↑i:Int).toNat*8) PV.bad)&&(isInt IntKind.i64 ((aa l).getD ((↑i:Int).toNat*8+1) PV.bad)&&(isInt IntKind.u32 ((aa l).getD ((↑i:Int).toNat*8+1+1) PV.bad)&&(isInt IntKind.u32 ((aa l).getD ((↑i:Int).toNat*8+1+1+1) PV.bad)&&(isInt IntKind.i32 ((aa l).getD ((↑i:Int).toNat*8+1+1+1+1) PV.bad)&&(aR ((aa l).getD ((↑i:Int).toNat*8+1+1+1+1+1) PV.bad)&&(aR ((aa l).getD ((↑i:Int).toNat*8+1+1+1+1+1+1) PV.bad)&&(aR ((aa l).getD ((↑i:Int).toNat*8+1+1+1+1+1+1+1) PV.bad)&&true)))))))&&true)
    (.need (AV.agg [AV.p (PV.sc (Value.int IntKind.i64 (aA ((aa l).getD ((↑i:Int).toNat*8) PV.bad)))),AV.p (PV.sc (Value.int IntKind.i64 (aA ((aa l).getD ((↑i:Int).toNat*8+1) PV.bad)))),AV.p (PV.sc (Value.int IntKind.u32 (aA ((aa l).getD ((↑i:Int).toNat*8+1+1) PV.bad)))),AV.p (PV.sc (Value.int IntKind.u32 (aA ((aa l).getD ((↑i:Int).toNat*8+1+1+1) PV.bad)))),AV.p (PV.sc (Value.int IntKind.i32 (aA ((aa l).getD ((↑i:Int).toNat*8+1+1+1+1) PV.bad)))),AV.p (PV.ps (aj ((aa l).getD ((↑i:Int).toNat*8+1+1+1+1+1) PV.bad)) (au ((aa l).getD ((↑i:Int).toNat*8+1+1+1+1+1) PV.bad)) (af ((aa l).getD ((↑i:Int).toNat*8+1+1+1+1+1) PV.bad))),AV.p (PV.ps (aj ((aa l).getD ((↑i:Int).toNat*8+1+1+1+1+1+1) PV.bad)) (au ((aa l).getD ((↑i:Int).toNat*8+1+1+1+1+1+1) PV.bad)) (af ((aa l).getD ((↑i:Int).toNat*8+1+1+1+1+1+1) PV.bad))),AV.p (PV.ps (aj ((aa l).getD ((↑i:Int).toNat*8+1+1+1+1+1+1+1) PV.bad)) (au ((aa l).getD ((↑i:Int).toNat*8+1+1+1+1+1+1+1) PV.bad)) (af ((aa l).getD ((↑i:Int).toNat*8+1+1+1+1+1+1+1) PV.bad)))]=iV op r a b nn tg ll le)
     (.must (((k+1)*1).ble aJ&&(k+1).ble aJ&&true)
      (.test (op==2)
       (.must (op==2)
        (.test (r==1)
         (.call ⟨32,[AV.os (Option.some 0) (k+1+1) 1 (X++[PV.sc (Value.int IntKind.u8 (IntKind.u8.wrap op))]++[PV.sc (Value.int IntKind.u8 127)]),AV.p (PV.ps ll.length 8 (aa ll))],[av.tok],AV.os (Option.some 1) (k+1+1+JJ (aa ll)) 1 (X++[PV.sc (Value.int IntKind.u8 (IntKind.u8.wrap op))]++[PV.sc (Value.int IntKind.u8 127)]++QQ (aa ll)),[av.dead,av.tok]⟩
         (.must (((k+1+1)*1).ble aJ&&(k+1+1).ble aJ&&true&&true&&true)
          (.test (decide ((↑le.length:Int)>0))
           (.call ⟨32,[AV.os (Option.some 0) (k+1+1+JJ (aa ll)+1) 1 (X++[PV.sc (Value.int IntKind.u8 (IntKind.u8.wrap op))]++[PV.sc (Value.int IntKind.u8 127)]++QQ (aa ll)++[PV.sc (Value.int IntKind.u8 5)]),AV.p (PV.ps le.length 8 (aa le))],[av.tok],AV.os (Option.some 1) (k+1+1+JJ (aa ll)+1+JJ (aa le)) 1 (X++[PV.sc (Value.int IntKind.u8 (IntKind.u8.wrap op))]++[PV.sc (Value.int IntKind.u8 127)]++QQ (aa ll)++[PV.sc (Value.int IntKind.u8 5)]++QQ (aa le)),[av.dead,av.tok]⟩
           (.must (((k+1+1+JJ (aa ll)+1)*1).ble aJ&&(k+1+1+JJ (aa ll)+1).ble aJ&&true&&true&&true)
            (.must (((k+1+1+JJ (aa ll)+1+JJ (aa le)+1)*1).ble aJ&&(k+1+1+JJ (aa ll)+1+JJ (aa le)+1).ble aJ&&true)
             (.need (AV.p (PV.sc (Value.int IntKind.i64 (IntKind.i64.wrap ((↑i:Int)+1))))=sI IntKind.i64 (↑(i+1):Int))
              (.at (an Tryd.prog env 32 0 [AV.mp 1 0,AV.fn (Fn.func 51) [] [AV.mp 1 0],AV.p (PV.ps l.length 8 (aa l)),AV.p (PV.sc (Value.int IntKind.i64 (↑l.length:Int))),AV.p (PV.sc (Value.int IntKind.i64 (↑(i+1):Int)))] ([av.dead,av.ac [AV.os (Option.some 2) (k+1+1+JJ (aa ll)+1+JJ (aa le)+1) 1 (X++[PV.sc (Value.int IntKind.u8 (IntKind.u8.wrap op))]++[PV.sc (Value.int IntKind.u8 127)]++QQ (aa ll)++[PV.sc (Value.int IntKind.u8 5)]++QQ (aa le)++[PV.sc (Value.int IntKind.u8 11)])],av.tok]) 1 130))))))
           (.must (((k+1+1+JJ (aa ll)+1)*1).ble aJ&&(k+1+1+JJ (aa ll)+1).ble aJ&&true)
            (.need (AV.p (PV.sc (Value.int IntKind.i64 (IntKind.i64.wrap ((↑i:Int)+1))))=sI IntKind.i64 (↑(i+1):Int))
             (.at (an Tryd.prog env 32 0 [AV.mp 1 0,AV.fn (Fn.func 51) [] [AV.mp 1 0],AV.p (PV.ps l.length 8 (aa l)),AV.p (PV.sc (Value.int IntKind.i64 (↑l.length:Int))),AV.p (PV.sc (Value.int IntKind.i64 (↑(i+1):Int)))] ([av.dead,av.ac [AV.os (Option.some 2) (k+1+1+JJ (aa ll)+1) 1 (X++[PV.sc (Value.int IntKind.u8 (IntKind.u8.wrap op))]++[PV.sc (Value.int IntKind.u8 127)]++QQ (aa ll)++[PV.sc (Value.int IntKind.u8 11)])],av.tok]) 1 130)))))))
         (.call ⟨32,[AV.os (Option.some 0) (k+1+1) 1 (X++[PV.sc (Value.int IntKind.u8 (IntKind.u8.wrap op))]++[PV.sc (Value.int IntKind.u8 64)]),AV.p (PV.ps ll.length 8 (aa ll))],[av.tok],AV.os (Option.some 1) (k+1+1+JJ (aa ll)) 1 (X++[PV.sc (Value.int IntKind.u8 (IntKind.u8.wrap op))]++[PV.sc (Value.int IntKind.u8 64)]++QQ (aa ll)),[av.dead,av.tok]⟩
         (.must (((k+1+1)*1).ble aJ&&(k+1+1).ble aJ&&true&&true&&true)
          (.test (decide ((↑le.length:Int)>0))
           (.call ⟨32,[AV.os (Option.some 0) (k+1+1+JJ (aa ll)+1) 1 (X++[PV.sc (Value.int IntKind.u8 (IntKind.u8.wrap op))]++[PV.sc (Value.int IntKind.u8 64)]++QQ (aa ll)++[PV.sc (Value.int IntKind.u8 5)]),AV.p (PV.ps le.length 8 (aa le))],[av.tok],AV.os (Option.some 1) (k+1+1+JJ (aa ll)+1+JJ (aa le)) 1 (X++[PV.sc (Value.int IntKind.u8 (IntKind.u8.wrap op))]++[PV.sc (Value.int IntKind.u8 64)]++QQ (aa ll)++[PV.sc (Value.int IntKind.u8 5)]++QQ (aa le)),[av.dead,av.tok]⟩
           (.must (((k+1+1+JJ (aa ll)+1)*1).ble aJ&&(k+1+1+JJ (aa ll)+1).ble aJ&&true&&true&&true)
            (.must (((k+1+1+JJ (aa ll)+1+JJ (aa le)+1)*1).ble aJ&&(k+1+1+JJ (aa ll)+1+JJ (aa le)+1).ble aJ&&true)
             (.need (AV.p (PV.sc (Value.int IntKind.i64 (IntKind.i64.wrap ((↑i:Int)+1))))=sI IntKind.i64 (↑(i+1):Int))
              (.at (an Tryd.prog env 32 0 [AV.mp 1 0,AV.fn (Fn.func 51) [] [AV.mp 1 0],AV.p (PV.ps l.length 8 (aa l)),AV.p (PV.sc (Value.int IntKind.i64 (↑l.length:Int))),AV.p (PV.sc (Value.int IntKind.i64 (↑(i+1):Int)))] ([av.dead,av.ac [AV.os (Option.some 2) (k+1+1+JJ (aa ll)+1+JJ (aa le)+1) 1 (X++[PV.sc (Value.int IntKind.u8 (IntKind.u8.wrap op))]++[PV.sc (Value.int IntKind.u8 64)]++QQ (aa ll)++[PV.sc (Value.int IntKind.u8 5)]++QQ (aa le)++[PV.sc (Value.int IntKind.u8 11)])],av.tok]) 1 130))))))
           (.must (((k+1+1+JJ (aa ll)+1)*1).ble aJ&&(k+1+1+JJ (aa ll)+1).ble aJ&&true)
            (.need (AV.p (PV.sc (Value.int IntKind.i64 (IntKind.i64.wrap ((↑i:Int)+1))))=sI IntKind.i64 (↑(i+1):Int))
             (.at (an Tryd.prog env 32 0 [AV.mp 1 0,AV.fn (Fn.func 51) [] [AV.mp 1 0],AV.p (PV.ps l.length 8 (aa l)),AV.p (PV.sc (Value.int IntKind.i64 (↑l.length:Int))),AV.p (PV.sc (Value.int IntKind.i64 (↑(i+1):Int)))] ([av.dead,av.ac [AV.os (Option.some 2) (k+1+1+JJ (aa ll)+1) 1 (X++[PV.sc (Value.int IntKind.u8 (IntKind.u8.wrap op))]++[PV.sc (Value.int IntKind.u8 64)]++QQ (aa ll)++[PV.sc (Value.int IntKind.u8 11)])],av.tok]) 1 130)))))))))
       (.test (op==3)
        (.must (op==3)
         (.test (r==1)
          (.call ⟨32,[AV.os (Option.some 0) (k+1+1) 1 (X++[PV.sc (Value.int IntKind.u8 (IntKind.u8.wrap op))]++[PV.sc (Value.int IntKind.u8 127)]),AV.p (PV.ps ll.length 8 (aa ll))],[av.tok],AV.os (Option.some 1) (k+1+1+JJ (aa ll)) 1 (X++[PV.sc (Value.int IntKind.u8 (IntKind.u8.wrap op))]++[PV.sc (Value.int IntKind.u8 127)]++QQ (aa ll)),[av.dead,av.tok]⟩
          (.must (((k+1+1)*1).ble aJ&&(k+1+1).ble aJ&&true&&true&&true)
           (.test (decide ((↑le.length:Int)>0))
            (.call ⟨32,[AV.os (Option.some 0) (k+1+1+JJ (aa ll)+1) 1 (X++[PV.sc (Value.int IntKind.u8 (IntKind.u8.wrap op))]++[PV.sc (Value.int IntKind.u8 127)]++QQ (aa ll)++[PV.sc (Value.int IntKind.u8 5)]),AV.p (PV.ps le.length 8 (aa le))],[av.tok],AV.os (Option.some 1) (k+1+1+JJ (aa ll)+1+JJ (aa le)) 1 (X++[PV.sc (Value.int IntKind.u8 (IntKind.u8.wrap op))]++[PV.sc (Value.int IntKind.u8 127)]++QQ (aa ll)++[PV.sc (Value.int IntKind.u8 5)]++QQ (aa le)),[av.dead,av.tok]⟩
            (.must (((k+1+1+JJ (aa ll)+1)*1).ble aJ&&(k+1+1+JJ (aa ll)+1).ble aJ&&true&&true&&true)
             (.must (((k+1+1+JJ (aa ll)+1+JJ (aa le)+1)*1).ble aJ&&(k+1+1+JJ (aa ll)+1+JJ (aa le)+1).ble aJ&&true)
              (.need (AV.p (PV.sc (Value.int IntKind.i64 (IntKind.i64.wrap ((↑i:Int)+1))))=sI IntKind.i64 (↑(i+1):Int))
               (.at (an Tryd.prog env 32 0 [AV.mp 1 0,AV.fn (Fn.func 51) [] [AV.mp 1 0],AV.p (PV.ps l.length 8 (aa l)),AV.p (PV.sc (Value.int IntKind.i64 (↑l.length:Int))),AV.p (PV.sc (Value.int IntKind.i64 (↑(i+1):Int)))] ([av.dead,av.ac [AV.os (Option.some 2) (k+1+1+JJ (aa ll)+1+JJ (aa le)+1) 1 (X++[PV.sc (Value.int IntKind.u8 (IntKind.u8.wrap op))]++[PV.sc (Value.int IntKind.u8 127)]++QQ (aa ll)++[PV.sc (Value.int IntKind.u8 5)]++QQ (aa le)++[PV.sc (Value.int IntKind.u8 11)])],av.tok]) 1 130))))))
            (.must (((k+1+1+JJ (aa ll)+1)*1).ble aJ&&(k+1+1+JJ (aa ll)+1).ble aJ&&true)
             (.need (AV.p (PV.sc (Value.int IntKind.i64 (IntKind.i64.wrap ((↑i:Int)+1))))=sI IntKind.i64 (↑(i+1):Int))
              (.at (an Tryd.prog env 32 0 [AV.mp 1 0,AV.fn (Fn.func 51) [] [AV.mp 1 0],AV.p (PV.ps l.length 8 (aa l)),AV.p (PV.sc (Value.int IntKind.i64 (↑l.length:Int))),AV.p (PV.sc (Value.int IntKind.i64 (↑(i+1):Int)))] ([av.dead,av.ac [AV.os (Option.some 2) (k+1+1+JJ (aa ll)+1) 1 (X++[PV.sc (Value.int IntKind.u8 (IntKind.u8.wrap op))]++[PV.sc (Value.int IntKind.u8 127)]++QQ (aa ll)++[PV.sc (Value.int IntKind.u8 11)])],av.tok]) 1 130)))))))
          (.call ⟨32,[AV.os (Option.some 0) (k+1+1) 1 (X++[PV.sc (Value.int IntKind.u8 (IntKind.u8.wrap op))]++[PV.sc (Value.int IntKind.u8 64)]),AV.p (PV.ps ll.length 8 (aa ll))],[av.tok],AV.os (Option.some 1) (k+1+1+JJ (aa ll)) 1 (X++[PV.sc (Value.int IntKind.u8 (IntKind.u8.wrap op))]++[PV.sc (Value.int IntKind.u8 64)]++QQ (aa ll)),[av.dead,av.tok]⟩
          (.must (((k+1+1)*1).ble aJ&&(k+1+1).ble aJ&&true&&true&&true)
           (.test (decide ((↑le.length:Int)>0))
            (.call ⟨32,[AV.os (Option.some 0) (k+1+1+JJ (aa ll)+1) 1 (X++[PV.sc (Value.int IntKind.u8 (IntKind.u8.wrap op))]++[PV.sc (Value.int IntKind.u8 64)]++QQ (aa ll)++[PV.sc (Value.int IntKind.u8 5)]),AV.p (PV.ps le.length 8 (aa le))],[av.tok],AV.os (Option.some 1) (k+1+1+JJ (aa ll)+1+JJ (aa le)) 1 (X++[PV.sc (Value.int IntKind.u8 (IntKind.u8.wrap op))]++[PV.sc (Value.int IntKind.u8 64)]++QQ (aa ll)++[PV.sc (Value.int IntKind.u8 5)]++QQ (aa le)),[av.dead,av.tok]⟩
            (.must (((k+1+1+JJ (aa ll)+1)*1).ble aJ&&(k+1+1+JJ (aa ll)+1).ble aJ&&true&&true&&true)
             (.must (((k+1+1+JJ (aa ll)+1+JJ (aa le)+1)*1).ble aJ&&(k+1+1+JJ (aa ll)+1+JJ (aa le)+1).ble aJ&&true)
              (.need (AV.p (PV.sc (Value.int IntKind.i64 (IntKind.i64.wrap ((↑i:Int)+1))))=sI IntKind.i64 (↑(i+1):Int))
               (.at (an Tryd.prog env 32 0 [AV.mp 1 0,AV.fn (Fn.func 51) [] [AV.mp 1 0],AV.p (PV.ps l.length 8 (aa l)),AV.p (PV.sc (Value.int IntKind.i64 (↑l.length:Int))),AV.p (PV.sc (Value.int IntKind.i64 (↑(i+1):Int)))] ([av.dead,av.ac [AV.os (Option.some 2) (k+1+1+JJ (aa ll)+1+JJ (aa le)+1) 1 (X++[PV.sc (Value.int IntKind.u8 (IntKind.u8.wrap op))]++[PV.sc (Value.int IntKind.u8 64)]++QQ (aa ll)++[PV.sc (Value.int IntKind.u8 5)]++QQ (aa le)++[PV.sc (Value.int IntKind.u8 11)])],av.tok]) 1 130))))))
            (.must (((k+1+1+JJ (aa ll)+1)*1).ble aJ&&(k+1+1+JJ (aa ll)+1).ble aJ&&true)
             (.need (AV.p (PV.sc (Value.int IntKind.i64 (IntKind.i64.wrap ((↑i:Int)+1))))=sI IntKind.i64 (↑(i+1):Int))
              (.at (an Tryd.prog env 32 0 [AV.mp 1 0,AV.fn (Fn.func 51) [] [AV.mp 1 0],AV.p (PV.ps l.length 8 (aa l)),AV.p (PV.sc (Value.int IntKind.i64 (↑l.length:Int))),AV.p (PV.sc (Value.int IntKind.i64 (↑(i+1):Int)))] ([av.dead,av.ac [AV.os (Option.some 2) (k+1+1+JJ (aa ll)+1) 1 (X++[PV.sc (Value.int IntKind.u8 (IntKind.u8.wrap op))]++[PV.sc (Value.int IntKind.u8 64)]++QQ (aa ll)++[PV.sc (Value.int IntKind.u8 11)])],av.tok]) 1 130)))))))))
        (.test (op==4)
         (.test (r==1)
          (.call ⟨32,[AV.os (Option.some 0) (k+1+1) 1 (X++[PV.sc (Value.int IntKind.u8 (IntKind.u8.wrap op))]++[PV.sc (Value.int IntKind.u8 127)]),AV.p (PV.ps ll.length 8 (aa ll))],[av.tok],AV.os (Option.some 1) (k+1+1+JJ (aa ll)) 1 (X++[PV.sc (Value.int IntKind.u8 (IntKind.u8.wrap op))]++[PV.sc (Value.int IntKind.u8 127)]++QQ (aa ll)),[av.dead,av.tok]⟩
          (.must (((k+1+1)*1).ble aJ&&(k+1+1).ble aJ&&true&&true&&true)
           (.test (decide ((↑le.length:Int)>0))
            (.call ⟨32,[AV.os (Option.some 0) (k+1+1+JJ (aa ll)+1) 1 (X++[PV.sc (Value.int IntKind.u8 (IntKind.u8.wrap op))]++[PV.sc (Value.int IntKind.u8 127)]++QQ (aa ll)++[PV.sc (Value.int IntKind.u8 5)]),AV.p (PV.ps le.length 8 (aa le))],[av.tok],AV.os (Option.some 1) (k+1+1+JJ (aa ll)+1+JJ (aa le)) 1 (X++[PV.sc (Value.int IntKind.u8 (IntKind.u8.wrap op))]++[PV.sc (Value.int IntKind.u8 127)]++QQ (aa ll)++[PV.sc (Value.int IntKind.u8 5)]++QQ (aa le)),[av.dead,av.tok]⟩
            (.must (((k+1+1+JJ (aa ll)+1)*1).ble aJ&&(k+1+1+JJ (aa ll)+1).ble aJ&&true&&true&&true)
             (.must (((k+1+1+JJ (aa ll)+1+JJ (aa le)+1)*1).ble aJ&&(k+1+1+JJ (aa ll)+1+JJ (aa le)+1).ble aJ&&true)
              (.need (AV.p (PV.sc (Value.int IntKind.i64 (IntKind.i64.wrap ((↑i:Int)+1))))=sI IntKind.i64 (↑(i+1):Int))
               (.at (an Tryd.prog env 32 0 [AV.mp 1 0,AV.fn (Fn.func 51) [] [AV.mp 1 0],AV.p (PV.ps l.length 8 (aa l)),AV.p (PV.sc (Value.int IntKind.i64 (↑l.length:Int))),AV.p (PV.sc (Value.int IntKind.i64 (↑(i+1):Int)))] ([av.dead,av.ac [AV.os (Option.some 2) (k+1+1+JJ (aa ll)+1+JJ (aa le)+1) 1 (X++[PV.sc (Value.int IntKind.u8 (IntKind.u8.wrap op))]++[PV.sc (Value.int IntKind.u8 127)]++QQ (aa ll)++[PV.sc (Value.int IntKind.u8 5)]++QQ (aa le)++[PV.sc (Value.int IntKind.u8 11)])],av.tok]) 1 130))))))
            (.must (((k+1+1+JJ (aa ll)+1)*1).ble aJ&&(k+1+1+JJ (aa ll)+1).ble aJ&&true)
             (.need (AV.p (PV.sc (Value.int IntKind.i64 (IntKind.i64.wrap ((↑i:Int)+1))))=sI IntKind.i64 (↑(i+1):Int))
              (.at (an Tryd.prog env 32 0 [AV.mp 1 0,AV.fn (Fn.func 51) [] [AV.mp 1 0],AV.p (PV.ps l.length 8 (aa l)),AV.p (PV.sc (Value.int IntKind.i64 (↑l.length:Int))),AV.p (PV.sc (Value.int IntKind.i64 (↑(i+1):Int)))] ([av.dead,av.ac [AV.os (Option.some 2) (k+1+1+JJ (aa ll)+1) 1 (X++[PV.sc (Value.int IntKind.u8 (IntKind.u8.wrap op))]++[PV.sc (Value.int IntKind.u8 127)]++QQ (aa ll)++[PV.sc (Value.int IntKind.u8 11)])],av.tok]) 1 130)))))))
          (.call ⟨32,[AV.os (Option.some 0) (k+1+1) 1 (X++[PV.sc (Value.int IntKind.u8 (IntKind.u8.wrap op))]++[PV.sc (Value.int IntKind.u8 64)]),AV.p (PV.ps ll.length 8 (aa ll))],[av.tok],AV.os (Option.some 1) (k+1+1+JJ (aa ll)) 1 (X++[PV.sc (Value.int IntKind.u8 (IntKind.u8.wrap op))]++[PV.sc (Value.int IntKind.u8 64)]++QQ (aa ll)),[av.dead,av.tok]⟩
          (.must (((k+1+1)*1).ble aJ&&(k+1+1).ble aJ&&true&&true&&true)
           (.test (decide ((↑le.length:Int)>0))
            (.call ⟨32,[AV.os (Option.some 0) (k+1+1+JJ (aa ll)+1) 1 (X++[PV.sc (Value.int IntKind.u8 (IntKind.u8.wrap op))]++[PV.sc (Value.int IntKind.u8 64)]++QQ (aa ll)++[PV.sc (Value.int IntKind.u8 5)]),AV.p (PV.ps le.length 8 (aa le))],[av.tok],AV.os (Option.some 1) (k+1+1+JJ (aa ll)+1+JJ (aa le)) 1 (X++[PV.sc (Value.int IntKind.u8 (IntKind.u8.wrap op))]++[PV.sc (Value.int IntKind.u8 64)]++QQ (aa ll)++[PV.sc (Value.int IntKind.u8 5)]++QQ (aa le)),[av.dead,av.tok]⟩
            (.must (((k+1+1+JJ (aa ll)+1)*1).ble aJ&&(k+1+1+JJ (aa ll)+1).ble aJ&&true&&true&&true)
             (.must (((k+1+1+JJ (aa ll)+1+JJ (aa le)+1)*1).ble aJ&&(k+1+1+JJ (aa ll)+1+JJ (aa le)+1).ble aJ&&true)
              (.need (AV.p (PV.sc (Value.int IntKind.i64 (IntKind.i64.wrap ((↑i:Int)+1))))=sI IntKind.i64 (↑(i+1):Int))
               (.at (an Tryd.prog env 32 0 [AV.mp 1 0,AV.fn (Fn.func 51) [] [AV.mp 1 0],AV.p (PV.ps l.length 8 (aa l)),AV.p (PV.sc (Value.int IntKind.i64 (↑l.length:Int))),AV.p (PV.sc (Value.int IntKind.i64 (↑(i+1):Int)))] ([av.dead,av.ac [AV.os (Option.some 2) (k+1+1+JJ (aa ll)+1+JJ (aa le)+1) 1 (X++[PV.sc (Value.int IntKind.u8 (IntKind.u8.wrap op))]++[PV.sc (Value.int IntKind.u8 64)]++QQ (aa ll)++[PV.sc (Value.int IntKind.u8 5)]++QQ (aa le)++[PV.sc (Value.int IntKind.u8 11)])],av.tok]) 1 130))))))
            (.must (((k+1+1+JJ (aa ll)+1)*1).ble aJ&&(k+1+1+JJ (aa ll)+1).ble aJ&&true)
             (.need (AV.p (PV.sc (Value.int IntKind.i64 (IntKind.i64.wrap ((↑i:Int)+1))))=sI IntKind.i64 (↑(i+1):Int))
              (.at (an Tryd.prog env 32 0 [AV.mp 1 0,AV.fn (Fn.func 51) [] [AV.mp 1 0],AV.p (PV.ps l.length 8 (aa l)),AV.p (PV.sc (Value.int IntKind.i64 (↑l.length:Int))),AV.p (PV.sc (Value.int IntKind.i64 (↑(i+1):Int)))] ([av.dead,av.ac [AV.os (Option.some 2) (k+1+1+JJ (aa ll)+1) 1 (X++[PV.sc (Value.int IntKind.u8 (IntKind.u8.wrap op))]++[PV.sc (Value.int IntKind.u8 64)]++QQ (aa ll)++[PV.sc (Value.int IntKind.u8 11)])],av.tok]) 1 130))))))))
         (.test (op==12)
          (.must (op==12)
           (.call ⟨35,[AV.p (PV.sc (Value.int IntKind.u32 a))],[],AV.p (PV.ps (J a) 1 (Q a)),[]⟩
           (.must (((k+1+J a)*1).ble aJ&&(k+1+J a).ble aJ&&true&&true&&true)
            (.must true
             (.need (AV.p (PV.sc (Value.int IntKind.i64 (IntKind.i64.wrap ((↑i:Int)+1))))=sI IntKind.i64 (↑(i+1):Int))
              (.at (an Tryd.prog env 32 0 [AV.mp 1 0,AV.fn (Fn.func 51) [] [AV.mp 1 0],AV.p (PV.ps l.length 8 (aa l)),AV.p (PV.sc (Value.int IntKind.i64 (↑l.length:Int))),AV.p (PV.sc (Value.int IntKind.i64 (↑(i+1):Int)))] ([av.dead,av.ac [AV.os (Option.some 2) (k+1+J a) 1 (X++[PV.sc (Value.int IntKind.u8 (IntKind.u8.wrap op))]++Q a)],av.tok]) 1 130)))))))
          (.test (op==13)
           (.must (op==13)
            (.call ⟨35,[AV.p (PV.sc (Value.int IntKind.u32 a))],[],AV.p (PV.ps (J a) 1 (Q a)),[]⟩
            (.must (((k+1+J a)*1).ble aJ&&(k+1+J a).ble aJ&&true&&true&&true)
             (.must true
              (.need (AV.p (PV.sc (Value.int IntKind.i64 (IntKind.i64.wrap ((↑i:Int)+1))))=sI IntKind.i64 (↑(i+1):Int))
               (.at (an Tryd.prog env 32 0 [AV.mp 1 0,AV.fn (Fn.func 51) [] [AV.mp 1 0],AV.p (PV.ps l.length 8 (aa l)),AV.p (PV.sc (Value.int IntKind.i64 (↑l.length:Int))),AV.p (PV.sc (Value.int IntKind.i64 (↑(i+1):Int)))] ([av.dead,av.ac [AV.os (Option.some 2) (k+1+J a) 1 (X++[PV.sc (Value.int IntKind.u8 (IntKind.u8.wrap op))]++Q a)],av.tok]) 1 130)))))))
           (.test (op==16)
            (.must (op==16)
             (.call ⟨35,[AV.p (PV.sc (Value.int IntKind.u32 a))],[],AV.p (PV.ps (J a) 1 (Q a)),[]⟩
             (.must (((k+1+J a)*1).ble aJ&&(k+1+J a).ble aJ&&true&&true&&true)
              (.must true
               (.need (AV.p (PV.sc (Value.int IntKind.i64 (IntKind.i64.wrap ((↑i:Int)+1))))=sI IntKind.i64 (↑(i+1):Int))
                (.at (an Tryd.prog env 32 0 [AV.mp 1 0,AV.fn (Fn.func 51) [] [AV.mp 1 0],AV.p (PV.ps l.length 8 (aa l)),AV.p (PV.sc (Value.int IntKind.i64 (↑l.length:Int))),AV.p (PV.sc (Value.int IntKind.i64 (↑(i+1):Int)))] ([av.dead,av.ac [AV.os (Option.some 2) (k+1+J a) 1 (X++[PV.sc (Value.int IntKind.u8 (IntKind.u8.wrap op))]++Q a)],av.tok]) 1 130)))))))
            (.test (op==32)
             (.must (op==32)
              (.call ⟨35,[AV.p (PV.sc (Value.int IntKind.u32 a))],[],AV.p (PV.ps (J a) 1 (Q a)),[]⟩
              (.must (((k+1+J a)*1).ble aJ&&(k+1+J a).ble aJ&&true&&true&&true)
               (.must true
                (.need (AV.p (PV.sc (Value.int IntKind.i64 (IntKind.i64.wrap ((↑i:Int)+1))))=sI IntKind.i64 (↑(i+1):Int))
                 (.at (an Tryd.prog env 32 0 [AV.mp 1 0,AV.fn (Fn.func 51) [] [AV.mp 1 0],AV.p (PV.ps l.length 8 (aa l)),AV.p (PV.sc (Value.int IntKind.i64 (↑l.length:Int))),AV.p (PV.sc (Value.int IntKind.i64 (↑(i+1):Int)))] ([av.dead,av.ac [AV.os (Option.some 2) (k+1+J a) 1 (X++[PV.sc (Value.int IntKind.u8 (IntKind.u8.wrap op))]++Q a)],av.tok]) 1 130)))))))
             (.test (op==33)
              (.must (op==33)
               (.call ⟨35,[AV.p (PV.sc (Value.int IntKind.u32 a))],[],AV.p (PV.ps (J a) 1 (Q a)),[]⟩
               (.must (((k+1+J a)*1).ble aJ&&(k+1+J a).ble aJ&&true&&true&&true)
                (.must true
                 (.need (AV.p (PV.sc (Value.int IntKind.i64 (IntKind.i64.wrap ((↑i:Int)+1))))=sI IntKind.i64 (↑(i+1):Int))
                  (.at (an Tryd.prog env 32 0 [AV.mp 1 0,AV.fn (Fn.func 51) [] [AV.mp 1 0],AV.p (PV.ps l.length 8 (aa l)),AV.p (PV.sc (Value.int IntKind.i64 (↑l.length:Int))),AV.p (PV.sc (Value.int IntKind.i64 (↑(i+1):Int)))] ([av.dead,av.ac [AV.os (Option.some 2) (k+1+J a) 1 (X++[PV.sc (Value.int IntKind.u8 (IntKind.u8.wrap op))]++Q a)],av.tok]) 1 130)))))))
              (.test (op==34)
               (.must (op==34)
                (.call ⟨35,[AV.p (PV.sc (Value.int IntKind.u32 a))],[],AV.p (PV.ps (J a) 1 (Q a)),[]⟩
                (.must (((k+1+J a)*1).ble aJ&&(k+1+J a).ble aJ&&true&&true&&true)
                 (.must true
                  (.need (AV.p (PV.sc (Value.int IntKind.i64 (IntKind.i64.wrap ((↑i:Int)+1))))=sI IntKind.i64 (↑(i+1):Int))
                   (.at (an Tryd.prog env 32 0 [AV.mp 1 0,AV.fn (Fn.func 51) [] [AV.mp 1 0],AV.p (PV.ps l.length 8 (aa l)),AV.p (PV.sc (Value.int IntKind.i64 (↑l.length:Int))),AV.p (PV.sc (Value.int IntKind.i64 (↑(i+1):Int)))] ([av.dead,av.ac [AV.os (Option.some 2) (k+1+J a) 1 (X++[PV.sc (Value.int IntKind.u8 (IntKind.u8.wrap op))]++Q a)],av.tok]) 1 130)))))))
               (.test (op==35)
                (.must (op==35)
                 (.call ⟨35,[AV.p (PV.sc (Value.int IntKind.u32 a))],[],AV.p (PV.ps (J a) 1 (Q a)),[]⟩
                 (.must (((k+1+J a)*1).ble aJ&&(k+1+J a).ble aJ&&true&&true&&true)
                  (.must true
                   (.need (AV.p (PV.sc (Value.int IntKind.i64 (IntKind.i64.wrap ((↑i:Int)+1))))=sI IntKind.i64 (↑(i+1):Int))
                    (.at (an Tryd.prog env 32 0 [AV.mp 1 0,AV.fn (Fn.func 51) [] [AV.mp 1 0],AV.p (PV.ps l.length 8 (aa l)),AV.p (PV.sc (Value.int IntKind.i64 (↑l.length:Int))),AV.p (PV.sc (Value.int IntKind.i64 (↑(i+1):Int)))] ([av.dead,av.ac [AV.os (Option.some 2) (k+1+J a) 1 (X++[PV.sc (Value.int IntKind.u8 (IntKind.u8.wrap op))]++Q a)],av.tok]) 1 130)))))))
                (.test (op==36)
                 (.call ⟨35,[AV.p (PV.sc (Value.int IntKind.u32 a))],[],AV.p (PV.ps (J a) 1 (Q a)),[]⟩
                 (.must (((k+1+J a)*1).ble aJ&&(k+1+J a).ble aJ&&true&&true&&true)
                  (.must true
                   (.need (AV.p (PV.sc (Value.int IntKind.i64 (IntKind.i64.wrap ((↑i:Int)+1))))=sI IntKind.i64 (↑(i+1):Int))
                    (.at (an Tryd.prog env 32 0 [AV.mp 1 0,AV.fn (Fn.func 51) [] [AV.mp 1 0],AV.p (PV.ps l.length 8 (aa l)),AV.p (PV.sc (Value.int IntKind.i64 (↑l.length:Int))),AV.p (PV.sc (Value.int IntKind.i64 (↑(i+1):Int)))] ([av.dead,av.ac [AV.os (Option.some 2) (k+1+J a) 1 (X++[PV.sc (Value.int IntKind.u8 (IntKind.u8.wrap op))]++Q a)],av.tok]) 1 130))))))
                 (.test (op==17)
                  (.call ⟨35,[AV.p (PV.sc (Value.int IntKind.u32 a))],[],AV.p (PV.ps (J a) 1 (Q a)),[]⟩
                  (.must (((k+1+J a)*1).ble aJ&&(k+1+J a).ble aJ&&true&&true&&true)
                   (.must true
                    (.must (((k+1+J a+1)*1).ble aJ&&(k+1+J a+1).ble aJ&&true)
                     (.need (AV.p (PV.sc (Value.int IntKind.i64 (IntKind.i64.wrap ((↑i:Int)+1))))=sI IntKind.i64 (↑(i+1):Int))
                      (.at (an Tryd.prog env 32 0 [AV.mp 1 0,AV.fn (Fn.func 51) [] [AV.mp 1 0],AV.p (PV.ps l.length 8 (aa l)),AV.p (PV.sc (Value.int IntKind.i64 (↑l.length:Int))),AV.p (PV.sc (Value.int IntKind.i64 (↑(i+1):Int)))] ([av.dead,av.ac [AV.os (Option.some 2) (k+1+J a+1) 1 (X++[PV.sc (Value.int IntKind.u8 (IntKind.u8.wrap op))]++Q a++[PV.sc (Value.int IntKind.u8 0)])],av.tok]) 1 130)))))))
                  (.test (op==14)
                   (.call ⟨35,[AV.p (PV.sc (Value.int IntKind.u32 (IntKind.u32.wrap (↑tg.length:Int))))],[],AV.p (PV.ps (J (IntKind.u32.wrap (↑tg.length:Int))) 1 (Q (IntKind.u32.wrap (↑tg.length:Int)))),[]⟩
                   (.must (((k+1+J (IntKind.u32.wrap (↑tg.length:Int)))*1).ble aJ&&(k+1+J (IntKind.u32.wrap (↑tg.length:Int))).ble aJ&&true&&true&&true)
                    (.must true
                     (.at (an Tryd.prog env 32 17 [AV.mp 1 0,AV.fn (Fn.func 51) [] [AV.mp 1 0],AV.mp 2 0,AV.p (PV.ps l.length 8 (aa l)),AV.p (PV.sc (Value.int IntKind.i64 (↑l.length:Int))),AV.p (PV.sc (Value.int IntKind.i64 (↑i:Int))),AV.p (PV.ps tg.length 1 (bL IntKind.u32 tg)),AV.p (PV.sc (Value.int IntKind.i64 (↑tg.length:Int))),AV.p (PV.sc (Value.int IntKind.i64 0))] ([av.dead,av.ac [AV.os (Option.some 3) (k+1+J (IntKind.u32.wrap (↑tg.length:Int))) 1 (X++[PV.sc (Value.int IntKind.u8 (IntKind.u8.wrap op))]++Q (IntKind.u32.wrap (↑tg.length:Int)))],av.ac [AV.p (PV.sc (Value.int IntKind.i64 op)),AV.p (PV.sc (Value.int IntKind.i64 r)),AV.p (PV.sc (Value.int IntKind.u32 a)),AV.p (PV.sc (Value.int IntKind.u32 b)),AV.p (PV.sc (Value.int IntKind.i32 nn)),AV.p (PV.ps tg.length 1 (bL IntKind.u32 tg)),AV.p (PV.ps ll.length 8 (aa ll)),AV.p (PV.ps le.length 8 (aa le))],av.tok]) 1 130)))))
                   (.test (op==63)
                    (.must (op==63)
                     (.must (((k+1+1)*1).ble aJ&&(k+1+1).ble aJ&&true)
                      (.need (AV.p (PV.sc (Value.int IntKind.i64 (IntKind.i64.wrap ((↑i:Int)+1))))=sI IntKind.i64 (↑(i+1):Int))
                       (.at (an Tryd.prog env 32 0 [AV.mp 1 0,AV.fn (Fn.func 51) [] [AV.mp 1 0],AV.p (PV.ps l.length 8 (aa l)),AV.p (PV.sc (Value.int IntKind.i64 (↑l.length:Int))),AV.p (PV.sc (Value.int IntKind.i64 (↑(i+1):Int)))] ([av.dead,av.ac [AV.os (Option.some 2) (k+1+1) 1 (X++[PV.sc (Value.int IntKind.u8 (IntKind.u8.wrap op))]++[PV.sc (Value.int IntKind.u8 0)])],av.tok]) 1 130)))))
                    (.test (op==64)
                     (.must (((k+1+1)*1).ble aJ&&(k+1+1).ble aJ&&true)
                      (.need (AV.p (PV.sc (Value.int IntKind.i64 (IntKind.i64.wrap ((↑i:Int)+1))))=sI IntKind.i64 (↑(i+1):Int))
                       (.at (an Tryd.prog env 32 0 [AV.mp 1 0,AV.fn (Fn.func 51) [] [AV.mp 1 0],AV.p (PV.ps l.length 8 (aa l)),AV.p (PV.sc (Value.int IntKind.i64 (↑l.length:Int))),AV.p (PV.sc (Value.int IntKind.i64 (↑(i+1):Int)))] ([av.dead,av.ac [AV.os (Option.some 2) (k+1+1) 1 (X++[PV.sc (Value.int IntKind.u8 (IntKind.u8.wrap op))]++[PV.sc (Value.int IntKind.u8 0)])],av.tok]) 1 130))))
                     (.test (op==65)
                      (.call ⟨52,[AV.p (PV.sc (Value.int IntKind.i32 nn))],[],AV.p (PV.ps (J' nn) 1 (Q' nn)),[]⟩
                      (.must (((k+1+J' nn)*1).ble aJ&&(k+1+J' nn).ble aJ&&true&&true&&true)
                       (.need (AV.p (PV.sc (Value.int IntKind.i64 (IntKind.i64.wrap ((↑i:Int)+1))))=sI IntKind.i64 (↑(i+1):Int))
                        (.at (an Tryd.prog env 32 0 [AV.mp 1 0,AV.fn (Fn.func 51) [] [AV.mp 1 0],AV.p (PV.ps l.length 8 (aa l)),AV.p (PV.sc (Value.int IntKind.i64 (↑l.length:Int))),AV.p (PV.sc (Value.int IntKind.i64 (↑(i+1):Int)))] ([av.dead,av.ac [AV.os (Option.some 2) (k+1+J' nn) 1 (X++[PV.sc (Value.int IntKind.u8 (IntKind.u8.wrap op))]++Q' nn)],av.tok]) 1 130)))))
                      (.call ⟨53,[AV.p (PV.sc (Value.int IntKind.i64 op))],[],AV.aO [AV.p (PV.sc (Value.int IntKind.u32 al)),AV.p (PV.sc (Value.bool st))],[]⟩
                       (.test (st)
                        (.call ⟨35,[AV.p (PV.sc (Value.int IntKind.u32 a))],[],AV.p (PV.ps (J a) 1 (Q a)),[]⟩
                        (.must (((k+1+J a)*1).ble aJ&&(k+1+J a).ble aJ&&true&&true&&true)
                         (.must true
                          (.call ⟨35,[AV.p (PV.sc (Value.int IntKind.u32 b))],[],AV.p (PV.ps (J b) 1 (Q b)),[]⟩
                          (.must (((k+1+J a+J b)*1).ble aJ&&(k+1+J a+J b).ble aJ&&true&&true&&true)
                           (.must true
                            (.need (AV.p (PV.sc (Value.int IntKind.i64 (IntKind.i64.wrap ((↑i:Int)+1))))=sI IntKind.i64 (↑(i+1):Int))
                             (.at (an Tryd.prog env 32 0 [AV.mp 1 0,AV.fn (Fn.func 51) [] [AV.mp 1 0],AV.p (PV.ps l.length 8 (aa l)),AV.p (PV.sc (Value.int IntKind.i64 (↑l.length:Int))),AV.p (PV.sc (Value.int IntKind.i64 (↑(i+1):Int)))] ([av.dead,av.ac [AV.os (Option.some 2) (k+1+J a+J b) 1 (X++[PV.sc (Value.int IntKind.u8 (IntKind.u8.wrap op))]++Q a++Q b)],av.tok]) 1 130)))))))))
                        (.need (AV.p (PV.sc (Value.int IntKind.i64 (IntKind.i64.wrap ((↑i:Int)+1))))=sI IntKind.i64 (↑(i+1):Int))
                         (.at (an Tryd.prog env 32 0 [AV.mp 1 0,AV.fn (Fn.func 51) [] [AV.mp 1 0],AV.p (PV.ps l.length 8 (aa l)),AV.p (PV.sc (Value.int IntKind.i64 (↑l.length:Int))),AV.p (PV.sc (Value.int IntKind.i64 (↑(i+1):Int)))] ([av.dead,av.ac [AV.os (Option.some 2) (k+1) 1 (X++[PV.sc (Value.int IntKind.u8 (IntKind.u8.wrap op))])],av.tok]) 1 130)))))))))))))))))))))))))
  (.out (Out.ret (AV.os (Option.some 1) k 1 X) [av.dead,av.tok])))
theorem xm (l:List Ins) (k:Nat) (X:List PV) (i:Nat) (op:Int) (r:Int) (a:Int) (b:Int) (nn:Int) (tg:List Int) (ll:List Ins) (le:List Ins) (al:Int) (st:Bool) (J:Int→Nat) (J':Int→Nat) (Q:Int→List PV) (Q':Int→List PV) (JJ:List PV→Nat) (QQ:List PV→List PV):grow Tryd.prog env (GW l k X i op r a b nn tg ll le al st J J' Q Q' JJ QQ) 1000000 true (an Tryd.prog env 32 0 ([AV.mp 1 0,AV.fn (Fn.func 51) [] [AV.mp 1 0],aL l,sI IntKind.i64 (↑l.length:Int),sI IntKind.i64 (↑i:Int)]) ([av.dead,av.ac [AV.os (Option.some 2) k 1 X],av.tok]) 1 130) Jf atEnd=aX l k X i op r a b nn tg ll le al st J J' Q Q' JJ QQ:=by kernel_rfl
noncomputable def GX (l:List Ins) (k:Nat) (X:List PV) (i:Nat) (j:Nat) (op:Int) (r:Int) (a:Int) (b:Int) (nn:Int) (tg:List Int) (ll:List Ins) (le:List Ins) (t:Int) (J:Int→Nat) (Q:Int→List PV):dR:=qD bk (KZ l k X i j op r a b nn tg ll le t J Q) [(32,0),(32,17)] [(32,0,18)] [(32,38,0),(32,38,1),(51,0,0)] (KY l k X i j op r a b nn tg ll le t J Q)
def Jg:Sc:= .fin
noncomputable def vo (l:List Ins) (k:Nat) (X:List PV) (i:Nat) (j:Nat) (op:Int) (r:Int) (a:Int) (b:Int) (nn:Int) (tg:List Int) (ll:List Ins) (le:List Ins) (t:Int) (J:Int→Nat) (Q:Int→List PV):Tree:=
 (.test (decide ((↑j:Int)<(↑tg.length:Int)))
  (.must (ep (↑j:Int) tg.length&&true&&true)
   (.must (isInt IntKind.u32 ((bL IntKind.u32 tg).getD ((↑j:Int).toNat*1) PV.bad)&&true)
    (.need (AV.p (PV.sc (Value.int IntKind.u32 (aA ((bL IntKind.u32 tg).getD ((↑j:Int).toNat*1) PV.bad))))=sI IntKind.u32 t)
     (.call ⟨35,[AV.p (PV.sc (Value.int IntKind.u32 t))],[],AV.p (PV.ps (J t) 1 (Q t)),[]⟩
     (.must (((k+J t)*1).ble aJ&&(k+J t).ble aJ&&true&&true&&true)
      (.must true
       (.need (AV.p (PV.sc (Value.int IntKind.i64 (IntKind.i64.wrap ((↑j:Int)+1))))=sI IntKind.i64 (↑(j+1):Int))
        (.at (an Tryd.prog env 32 17 [AV.mp 1 0,AV.fn (Fn.func 51) [] [AV.mp 1 0],AV.mp 2 0,AV.p (PV.ps l.length 8 (aa l)),AV.p (PV.sc (Value.int IntKind.i64 (↑l.length:Int))),AV.p (PV.sc (Value.int IntKind.i64 (↑i:Int))),AV.p (PV.ps tg.length 1 (bL IntKind.u32 tg)),AV.p (PV.sc (Value.int IntKind.i64 (↑tg.length:Int))),AV.p (PV.sc (Value.int IntKind.i64 (↑(j+1):Int)))] ([av.dead,av.ac [AV.os (Option.some 3) (k+J t) 1 (X++Q t)],av.ac [AV.p (PV.sc (Value.int IntKind.i64 op)),AV.p (PV.sc (Value.int IntKind.i64 r)),AV.p (PV.sc (Value.int IntKind.u32 a)),AV.p (PV.sc (Value.int IntKind.u32 b)),AV.p (PV.sc (Value.int IntKind.i32 nn)),AV.p (PV.ps tg.length 1 (bL IntKind.u32 tg)),AV.p (PV.ps ll.length 8 (aa ll)),AV.p (PV.ps le.length 8 (aa le))],av.tok]) 1 130)))))))))
  (.call ⟨35,[AV.p (PV.sc (Value.int IntKind.u32 a))],[],AV.p (PV.ps (J a) 1 (Q a)),[]⟩
  (.must (((k+J a)*1).ble aJ&&(k+J a).ble aJ&&true&&true&&true)
   (.must true
    (.need (AV.p (PV.sc (Value.int IntKind.i64 (IntKind.i64.wrap ((↑i:Int)+1))))=sI IntKind.i64 (↑(i+1):Int))
     (.at (an Tryd.prog env 32 0 [AV.mp 1 0,AV.fn (Fn.func 51) [] [AV.mp 1 0],AV.p (PV.ps l.length 8 (aa l)),AV.p (PV.sc (Value.int IntKind.i64 (↑l.length:Int))),AV.p (PV.sc (Value.int IntKind.i64 (↑(i+1):Int)))] ([av.dead,av.ac [AV.os (Option.some 2) (k+J a) 1 (X++Q a)],av.tok]) 1 130)))))))
theorem xp (l:List Ins) (k:Nat) (X:List PV) (i:Nat) (j:Nat) (op:Int) (r:Int) (a:Int) (b:Int) (nn:Int) (tg:List Int) (ll:List Ins) (le:List Ins) (t:Int) (J:Int→Nat) (Q:Int→List PV):grow Tryd.prog env (GX l k X i j op r a b nn tg ll le t J Q) 1000000 true (an Tryd.prog env 32 17 ([AV.mp 1 0,AV.fn (Fn.func 51) [] [AV.mp 1 0],AV.mp 2 0,aL l,sI IntKind.i64 (↑l.length:Int),sI IntKind.i64 (↑i:Int),AV.p (PV.ps tg.length 1 (bL IntKind.u32 tg)),sI IntKind.i64 (↑tg.length:Int),sI IntKind.i64 (↑j:Int)]) ([av.dead,av.ac [AV.os (Option.some 3) k 1 X],av.ac [sI IntKind.i64 op,sI IntKind.i64 r,sI IntKind.u32 a,sI IntKind.u32 b,sI IntKind.i32 nn,AV.p (PV.ps tg.length 1 (bL IntKind.u32 tg)),aL ll,aL le],av.tok]) 1 130) Jg atEnd=vo l k X i j op r a b nn tg ll le t J Q:=by kernel_rfl
def vp (l:List Ins):Prop:= ∀X:List PV,X.length+20*bZ l≤1000000000→aB Tryd.prog env 32 [.os (some 0) X.length 1 X,aL l] [.tok] (.os (some 1) (X.length+jL (aa l)) 1 (X++qL (aa l))) [.dead,.tok]
theorem vp.to {l:List Ins} (h:vp l) {n:Nat} {X:List PV} (hn:n=X.length) (hX:X.length+20*bZ l≤1000000000):aB Tryd.prog env 32 [.os (some 0) n 1 X,aL l] [.tok] (.os (some 1) (n+jL (aa l)) 1 (X++qL (aa l))) [.dead,.tok]:=by subst hn;exact h X hX
noncomputable abbrev AQ (l:List Ins) (X:List PV) (i n:Nat):bD:=an Tryd.prog env 32 0 [.mp 1 0,.fn (.func 51) [] [.mp 1 0],aL l,sI .i64 l.length,sI .i64 i] [.dead,.ac [.os (some 2) n 1 X],.tok] 1 130
theorem gS {l:List Ins} {X Y:List PV} {i n:Nat} {o:Out} (h:X=Y) (hn:n=Y.length) (k:Am.Good Tryd.prog env (AQ l Y i Y.length) o):Am.Good Tryd.prog env (AQ l X i n) o:=by subst h;subst hn;exact k
theorem Ep {l:List Ins} {i:Nat} {op r a b nn:Int} {tg:List Int} {ll le:List Ins} {o:Out} (hi:i<1000000000) (ha:0≤a∧a<4294967296) (ht : ∀t∈tg,0≤t∧t<4294967296) (hl:tg.length≤1000000) : ∀(n j:Nat) (X:List PV),j+n=tg.length→X.length+5*n≤1000000000 →
  Am.Good Tryd.prog env (AQ l (X++(bt ((tg.drop j).flatMap fun t=>pU 4 t.toNat)++qU a)) (i+1) (X++(bt ((tg.drop j).flatMap fun t=>pU 4 t.toNat)++qU a)).length) o →
  Am.Good Tryd.prog env (an Tryd.prog env 32 17 [.mp 1 0,.fn (.func 51) [] [.mp 1 0],.mp 2 0,aL l,sI .i64 l.length,sI .i64 i,.p (.ps tg.length 1 (bL .u32 tg)),sI .i64 tg.length,sI .i64 j] [.dead,.ac [.os (some 3) X.length 1 X],.ac [sI .i64 op,sI .i64 r,sI .u32 a,sI .u32 b,sI .i32 nn,.p (.ps tg.length 1 (bL .u32 tg)),aL ll,aL le],.tok] 1 130) o:=by
 have aY:aJ=70368744177664:=rfl
 have MN:=kP a
 have KV:(qU a).length=jU a:=aE _
 have wi:IntKind.i64.wrap ((i:Int)+1)=((i+1:Nat):Int):=by rw[cC (by omega) (by omega)];rfl
 intro n
 induction n with
 |zero=>
  intro j X hj hX hg
  have hd:decide ((j:Int)<(tg.length:Int))=false:=decide_eq_false (by omega)
  refine aq names (xp l X.length X i j op r a b nn tg ll le 0 jU qU) ?_
  simp only[vo,Tree.ok,hd,aY,Nat.ble_eq,Bool.and_eq_true,and_true,Bool.false_eq_true,false_implies,true_implies,true_and,wi]
  refine⟨bU ha,⟨by omega,by omega⟩,gS ?_ ?_ hg⟩
  · rw[List.drop_eq_nil_of_le (by omega)];simp[bt]
  · rw[List.drop_eq_nil_of_le (by omega)];simp[bt,KV]
 |succ n ih=>
  intro j X hj hX hg
  have hjl:j<tg.length:=by omega
  have hd:decide ((j:Int)<(tg.length:Int))=true:=decide_eq_true (by omega)
  have xy:=kP tg[j]
  have KW:(qU tg[j]).length=jU tg[j]:=aE _
  have w:IntKind.i64.wrap ((j:Int)+1)=((j+1:Nat):Int):=by rw[cC (by omega) (by omega)];rfl
  have e:(X++qU tg[j])++(bt ((tg.drop (j+1)).flatMap fun t=>pU 4 t.toNat)++qU a)=X++(bt ((tg.drop j).flatMap fun t=>pU 4 t.toNat)++qU a):=by
   rw[List.drop_eq_getElem_cons hjl,List.flatMap_cons,kr]
   simp[qU]
  have k:=ih (j+1) (X++qU tg[j]) (by omega) (by rw[List.length_append];omega) (by rw[e];exact hg)
  have hin:ep (j:Int) tg.length=true:=by simp only[ep,Bool.and_eq_true,decide_eq_true_eq];omega
  refine aq names (xp l X.length X i j op r a b nn tg ll le tg[j] jU qU) ?_
  simp only[vo,Tree.ok,hd,aY,Nat.ble_eq,Bool.and_eq_true,and_true,true_and,Bool.true_eq_false,false_implies,true_implies,hin,Int.toNat_natCast,zN hjl,isInt,aA,w,beq_self_eq_true]
  refine⟨bU (ht _ (List.getElem_mem hjl)),⟨by omega,by omega⟩,?_⟩
  rw[List.length_append,KW] at k
  exact k
theorem C0 {op:Int} (h:gR op=true) (kQ : ¬op=17):op=12∨op=13∨op=16∨op=32∨op=33∨op=34∨op=35∨op=36:=by
 have:=wW.1 h
 omega
set_option maxHeartbeats 8000000 in
theorem C1 {l:List Ins} {i:Nat} {op r a b nn:Int} {tg:List Int} {ll le:List Ins} {X:List PV} {o:Out} (hg:l[i]? = some (.mk op r a b nn tg ll le)) (hi:i<1000000000)
  (hw:Dj (.mk op r a b nn tg ll le)) (hX:X.length+20*fF (.mk op r a b nn tg ll le)≤1000000000) (hc:fF (.mk op r a b nn tg ll le)≤1000000) (h1:vp ll) (h2:vp le)
  (k:Am.Good Tryd.prog env (AQ l (X++bt (cU (.mk op r a b nn tg ll le))) (i+1) (X++bt (cU (.mk op r a b nn tg ll le))).length) o):Am.Good Tryd.prog env (AQ l X i X.length) o:=by
 have aY:aJ=70368744177664:=rfl
 have vr:i<l.length:=(List.getElem?_eq_some_iff.1 hg).1
 obtain⟨-,-,wa,wb,wn,⟨wt,GU⟩,-,-,-⟩:=hw
 have wa:=nA wa
 have wb:=nA wb
 have wn:=CW wn
 have GU : ∀t∈tg,0≤t∧t<4294967296:=fun t ht=>nA (GU t ht)
 simp only[fF] at hc hX
 have k1:jL (aa ll)≤20*bZ ll:=by rw[cM];exact eK ll
 have k2:jL (aa le)≤20*bZ le:=by rw[cM];exact eK le
 have k3:=kP a
 have k4:=kP b
 have k5:=E0 nn
 have k6:=kP tg.length
 have q1:(qL (aa ll)).length=jL (aa ll):=by rw[dI,cM,aE]
 have q2:(qL (aa le)).length=jL (aa le):=by rw[dI,cM,aE]
 have q3:(qU a).length=jU a:=aE _
 have q4:(qU b).length=jU b:=aE _
 have q5:(qS nn).length=jS nn:=aE _
 have q6:(qU tg.length).length=jU tg.length:=aE _
 have hu:IntKind.u32.wrap (tg.length:Int)=tg.length:=oa (by omega) (by omega)
 have hd:decide ((i:Int)<(l.length:Int))=true:=decide_eq_true (by omega)
 have hin:ep (i:Int) l.length=true:=by simp only[ep,Bool.and_eq_true,decide_eq_true_eq];omega
 have w:IntKind.i64.wrap ((i:Int)+1)=((i+1:Nat):Int):=by rw[cC (by omega) (by omega)];rfl
 obtain⟨c0,c1,c2,c3,c4,c5,c6,c7⟩:=dS hg
 have c2:(aa l).getD (i*8+1+1) .bad = .sc (.int .u32 a):=c2
 have c3:(aa l).getD (i*8+1+1+1) .bad = .sc (.int .u32 b):=c3
 have c4:(aa l).getD (i*8+1+1+1+1) .bad = .sc (.int .i32 nn):=c4
 have c5:(aa l).getD (i*8+1+1+1+1+1) .bad = .ps tg.length 1 (bL .u32 tg):=c5
 have c6:(aa l).getD (i*8+1+1+1+1+1+1) .bad = .ps ll.length 8 (aa ll):=c6
 have c7:(aa l).getD (i*8+1+1+1+1+1+1+1) .bad = .ps le.length 8 (aa le):=c7
 have cb:PV.sc (.int .u8 (IntKind.u8.wrap op)) = .sc (.int .u8 ((op%256).toNat:Int)):=by rw[bJ]
 have a1:=qP op
 have hk:X.length+5≤1000000000:=by omega
 refine aq names (xm l X.length X i op r a b nn tg ll le (lE op) (eJ op) jU jS qU qS jL qL) ?_
 cases dB:gw op with
 |true=>
  have hop:(op==2)=true∨((op==2)=false∧(op==3)=true)∨((op==2)=false∧(op==3)=false∧(op==4)=true):=by
   rcases jQ.1 dB with rfl | rfl | rfl
   · exact .inl rfl
   · exact .inr (.inl ⟨rfl,rfl⟩)
   · exact .inr (.inr ⟨rfl,rfl,rfl⟩)
  by_cases hr:r=1
  · by_cases hle:le.length=0
    · have he:decide ((le.length:Int)>0)=false:=decide_eq_false (by omega)
      have dr:(r==1)=true:=by rw[hr];rfl
      rcases hop with o2 | ⟨o2,o3⟩ | ⟨o2,o3,o4⟩
      · simp only[aX,Tree.ok,hd,aY,Nat.ble_eq,Bool.and_eq_true,and_true,true_and,Bool.true_eq_false,Bool.false_eq_true,false_implies,true_implies,hin,Int.toNat_natCast,c0,c1,c2,c3,c4,c5,c6,c7,isInt,aR,aA,aj,au,af,w,beq_self_eq_true,cb,hu,Int.reduceBEq,o2,he,dr]
        exact⟨rfl,⟨by omega,by omega⟩,h1.to (by simp only[List.length_append,List.length_cons,List.length_nil]) (by simp only[List.length_append,List.length_cons,List.length_nil];omega),⟨by omega,by omega⟩,⟨by omega,by omega⟩,gS (by simp[cU,dB,hle,hr,bt,dI]) (by simp[cU,dB,hle,hr,bt,cM];omega) k⟩
      · simp only[aX,Tree.ok,hd,aY,Nat.ble_eq,Bool.and_eq_true,and_true,true_and,Bool.true_eq_false,Bool.false_eq_true,false_implies,true_implies,hin,Int.toNat_natCast,c0,c1,c2,c3,c4,c5,c6,c7,isInt,aR,aA,aj,au,af,w,beq_self_eq_true,cb,hu,Int.reduceBEq,o2,o3,he,dr]
        exact⟨rfl,⟨by omega,by omega⟩,h1.to (by simp only[List.length_append,List.length_cons,List.length_nil]) (by simp only[List.length_append,List.length_cons,List.length_nil];omega),⟨by omega,by omega⟩,⟨by omega,by omega⟩,gS (by simp[cU,dB,hle,hr,bt,dI]) (by simp[cU,dB,hle,hr,bt,cM];omega) k⟩
      · simp only[aX,Tree.ok,hd,aY,Nat.ble_eq,Bool.and_eq_true,and_true,true_and,Bool.true_eq_false,Bool.false_eq_true,false_implies,true_implies,hin,Int.toNat_natCast,c0,c1,c2,c3,c4,c5,c6,c7,isInt,aR,aA,aj,au,af,w,beq_self_eq_true,cb,hu,Int.reduceBEq,o2,o3,o4,he,dr]
        exact⟨rfl,⟨by omega,by omega⟩,h1.to (by simp only[List.length_append,List.length_cons,List.length_nil]) (by simp only[List.length_append,List.length_cons,List.length_nil];omega),⟨by omega,by omega⟩,⟨by omega,by omega⟩,gS (by simp[cU,dB,hle,hr,bt,dI]) (by simp[cU,dB,hle,hr,bt,cM];omega) k⟩
    · have he:decide ((le.length:Int)>0)=true:=decide_eq_true (by omega)
      have dr:(r==1)=true:=by rw[hr];rfl
      rcases hop with o2 | ⟨o2,o3⟩ | ⟨o2,o3,o4⟩
      · simp only[aX,Tree.ok,hd,aY,Nat.ble_eq,Bool.and_eq_true,and_true,true_and,Bool.true_eq_false,Bool.false_eq_true,false_implies,true_implies,hin,Int.toNat_natCast,c0,c1,c2,c3,c4,c5,c6,c7,isInt,aR,aA,aj,au,af,w,beq_self_eq_true,cb,hu,Int.reduceBEq,o2,he,dr]
        exact⟨rfl,⟨by omega,by omega⟩,h1.to (by simp only[List.length_append,List.length_cons,List.length_nil]) (by simp only[List.length_append,List.length_cons,List.length_nil];omega),⟨by omega,by omega⟩,h2.to (by simp only[List.length_append,List.length_cons,List.length_nil,q1]) (by simp only[List.length_append,List.length_cons,List.length_nil,q1];omega),⟨by omega,by omega⟩,⟨by omega,by omega⟩,gS (by simp[cU,dB,hle,hr,bt,dI]) (by simp[cU,dB,hle,hr,bt,cM];omega) k⟩
      · simp only[aX,Tree.ok,hd,aY,Nat.ble_eq,Bool.and_eq_true,and_true,true_and,Bool.true_eq_false,Bool.false_eq_true,false_implies,true_implies,hin,Int.toNat_natCast,c0,c1,c2,c3,c4,c5,c6,c7,isInt,aR,aA,aj,au,af,w,beq_self_eq_true,cb,hu,Int.reduceBEq,o2,o3,he,dr]
        exact⟨rfl,⟨by omega,by omega⟩,h1.to (by simp only[List.length_append,List.length_cons,List.length_nil]) (by simp only[List.length_append,List.length_cons,List.length_nil];omega),⟨by omega,by omega⟩,h2.to (by simp only[List.length_append,List.length_cons,List.length_nil,q1]) (by simp only[List.length_append,List.length_cons,List.length_nil,q1];omega),⟨by omega,by omega⟩,⟨by omega,by omega⟩,gS (by simp[cU,dB,hle,hr,bt,dI]) (by simp[cU,dB,hle,hr,bt,cM];omega) k⟩
      · simp only[aX,Tree.ok,hd,aY,Nat.ble_eq,Bool.and_eq_true,and_true,true_and,Bool.true_eq_false,Bool.false_eq_true,false_implies,true_implies,hin,Int.toNat_natCast,c0,c1,c2,c3,c4,c5,c6,c7,isInt,aR,aA,aj,au,af,w,beq_self_eq_true,cb,hu,Int.reduceBEq,o2,o3,o4,he,dr]
        exact⟨rfl,⟨by omega,by omega⟩,h1.to (by simp only[List.length_append,List.length_cons,List.length_nil]) (by simp only[List.length_append,List.length_cons,List.length_nil];omega),⟨by omega,by omega⟩,h2.to (by simp only[List.length_append,List.length_cons,List.length_nil,q1]) (by simp only[List.length_append,List.length_cons,List.length_nil,q1];omega),⟨by omega,by omega⟩,⟨by omega,by omega⟩,gS (by simp[cU,dB,hle,hr,bt,dI]) (by simp[cU,dB,hle,hr,bt,cM];omega) k⟩
  · have dr:(r==1)=false:=by simpa using hr
    by_cases hle:le.length=0
    · have he:decide ((le.length:Int)>0)=false:=decide_eq_false (by omega)
      rcases hop with o2 | ⟨o2,o3⟩ | ⟨o2,o3,o4⟩
      · simp only[aX,Tree.ok,hd,aY,Nat.ble_eq,Bool.and_eq_true,and_true,true_and,Bool.true_eq_false,Bool.false_eq_true,false_implies,true_implies,hin,Int.toNat_natCast,c0,c1,c2,c3,c4,c5,c6,c7,isInt,aR,aA,aj,au,af,w,beq_self_eq_true,cb,hu,Int.reduceBEq,o2,he,dr]
        exact⟨rfl,⟨by omega,by omega⟩,h1.to (by simp only[List.length_append,List.length_cons,List.length_nil]) (by simp only[List.length_append,List.length_cons,List.length_nil];omega),⟨by omega,by omega⟩,⟨by omega,by omega⟩,gS (by simp[cU,dB,hle,hr,bt,dI]) (by simp[cU,dB,hle,hr,bt,cM];omega) k⟩
      · simp only[aX,Tree.ok,hd,aY,Nat.ble_eq,Bool.and_eq_true,and_true,true_and,Bool.true_eq_false,Bool.false_eq_true,false_implies,true_implies,hin,Int.toNat_natCast,c0,c1,c2,c3,c4,c5,c6,c7,isInt,aR,aA,aj,au,af,w,beq_self_eq_true,cb,hu,Int.reduceBEq,o2,o3,he,dr]
        exact⟨rfl,⟨by omega,by omega⟩,h1.to (by simp only[List.length_append,List.length_cons,List.length_nil]) (by simp only[List.length_append,List.length_cons,List.length_nil];omega),⟨by omega,by omega⟩,⟨by omega,by omega⟩,gS (by simp[cU,dB,hle,hr,bt,dI]) (by simp[cU,dB,hle,hr,bt,cM];omega) k⟩
      · simp only[aX,Tree.ok,hd,aY,Nat.ble_eq,Bool.and_eq_true,and_true,true_and,Bool.true_eq_false,Bool.false_eq_true,false_implies,true_implies,hin,Int.toNat_natCast,c0,c1,c2,c3,c4,c5,c6,c7,isInt,aR,aA,aj,au,af,w,beq_self_eq_true,cb,hu,Int.reduceBEq,o2,o3,o4,he,dr]
        exact⟨rfl,⟨by omega,by omega⟩,h1.to (by simp only[List.length_append,List.length_cons,List.length_nil]) (by simp only[List.length_append,List.length_cons,List.length_nil];omega),⟨by omega,by omega⟩,⟨by omega,by omega⟩,gS (by simp[cU,dB,hle,hr,bt,dI]) (by simp[cU,dB,hle,hr,bt,cM];omega) k⟩
    · have he:decide ((le.length:Int)>0)=true:=decide_eq_true (by omega)
      rcases hop with o2 | ⟨o2,o3⟩ | ⟨o2,o3,o4⟩
      · simp only[aX,Tree.ok,hd,aY,Nat.ble_eq,Bool.and_eq_true,and_true,true_and,Bool.true_eq_false,Bool.false_eq_true,false_implies,true_implies,hin,Int.toNat_natCast,c0,c1,c2,c3,c4,c5,c6,c7,isInt,aR,aA,aj,au,af,w,beq_self_eq_true,cb,hu,Int.reduceBEq,o2,he,dr]
        exact⟨rfl,⟨by omega,by omega⟩,h1.to (by simp only[List.length_append,List.length_cons,List.length_nil]) (by simp only[List.length_append,List.length_cons,List.length_nil];omega),⟨by omega,by omega⟩,h2.to (by simp only[List.length_append,List.length_cons,List.length_nil,q1]) (by simp only[List.length_append,List.length_cons,List.length_nil,q1];omega),⟨by omega,by omega⟩,⟨by omega,by omega⟩,gS (by simp[cU,dB,hle,hr,bt,dI]) (by simp[cU,dB,hle,hr,bt,cM];omega) k⟩
      · simp only[aX,Tree.ok,hd,aY,Nat.ble_eq,Bool.and_eq_true,and_true,true_and,Bool.true_eq_false,Bool.false_eq_true,false_implies,true_implies,hin,Int.toNat_natCast,c0,c1,c2,c3,c4,c5,c6,c7,isInt,aR,aA,aj,au,af,w,beq_self_eq_true,cb,hu,Int.reduceBEq,o2,o3,he,dr]
        exact⟨rfl,⟨by omega,by omega⟩,h1.to (by simp only[List.length_append,List.length_cons,List.length_nil]) (by simp only[List.length_append,List.length_cons,List.length_nil];omega),⟨by omega,by omega⟩,h2.to (by simp only[List.length_append,List.length_cons,List.length_nil,q1]) (by simp only[List.length_append,List.length_cons,List.length_nil,q1];omega),⟨by omega,by omega⟩,⟨by omega,by omega⟩,gS (by simp[cU,dB,hle,hr,bt,dI]) (by simp[cU,dB,hle,hr,bt,cM];omega) k⟩
      · simp only[aX,Tree.ok,hd,aY,Nat.ble_eq,Bool.and_eq_true,and_true,true_and,Bool.true_eq_false,Bool.false_eq_true,false_implies,true_implies,hin,Int.toNat_natCast,c0,c1,c2,c3,c4,c5,c6,c7,isInt,aR,aA,aj,au,af,w,beq_self_eq_true,cb,hu,Int.reduceBEq,o2,o3,o4,he,dr]
        exact⟨rfl,⟨by omega,by omega⟩,h1.to (by simp only[List.length_append,List.length_cons,List.length_nil]) (by simp only[List.length_append,List.length_cons,List.length_nil];omega),⟨by omega,by omega⟩,h2.to (by simp only[List.length_append,List.length_cons,List.length_nil,q1]) (by simp only[List.length_append,List.length_cons,List.length_nil,q1];omega),⟨by omega,by omega⟩,⟨by omega,by omega⟩,gS (by simp[cU,dB,hle,hr,bt,dI]) (by simp[cU,dB,hle,hr,bt,cM];omega) k⟩
 |false=>
  have n2:(op==2)=false:=by cases h:op==2 with | false=>rfl | true=>rw[jQ.2 (.inl (eq_of_beq h))] at dB;cases dB
  have n3:(op==3)=false:=by cases h:op==3 with | false=>rfl | true=>rw[jQ.2 (.inr (.inl (eq_of_beq h)))] at dB;cases dB
  have n4:(op==4)=false:=by cases h:op==4 with | false=>rfl | true=>rw[jQ.2 (.inr (.inr (eq_of_beq h)))] at dB;cases dB
  by_cases kQ:op=17
  · have E1:(op==17)=true:=by rw[kQ];rfl
    have B1:(X.length+1)*1≤70368744177664∧X.length+1≤70368744177664:=⟨by omega,by omega⟩
    simp only[aX,Tree.ok,hd,aY,Nat.ble_eq,Bool.and_eq_true,and_true,true_and,Bool.true_eq_false,Bool.false_eq_true,false_implies,true_implies,hin,Int.toNat_natCast,c0,c1,c2,c3,c4,c5,c6,c7,isInt,aR,aA,aj,au,af,w,beq_self_eq_true,cb,hu,Int.reduceBEq,n2,n3,n4,show(op==12)=false from by rw[kQ];rfl,show(op==13)=false from by rw[kQ];rfl,show(op==16)=false from by rw[kQ];rfl,show(op==32)=false from by rw[kQ];rfl,show(op==33)=false from by rw[kQ];rfl,show(op==34)=false from by rw[kQ];rfl,show(op==35)=false from by rw[kQ];rfl,show(op==36)=false from by rw[kQ];rfl,E1]
    exact⟨rfl,B1,bU wa,⟨by omega,by omega⟩,⟨by omega,by omega⟩,gS (by simp[cU,show gw 17=false from rfl,show eJ 17=false from rfl,kQ,bt,qU]) (by simp[cU,show gw 17=false from rfl,show eJ 17=false from rfl,kQ,bt,jU];omega) k⟩
  · have E1:(op==17)=false:=by simpa using kQ
    cases kR:gR op with
    |true=>
     have hop:=C0 kR kQ
     have fin:=gS (i:=i+1) (n:=X.length+1+jU a) (X:=X++[.sc (.int .u8 ((op%256).toNat:Int))]++qU a) (by simp[cU,dB,kQ,kR,bt,qU]) (by simp[cU,dB,kQ,kR,bt,jU];omega) k
     have B:(X.length+1+jU a)*1≤70368744177664∧X.length+1+jU a≤70368744177664:=⟨by omega,by omega⟩
     have B1:(X.length+1)*1≤70368744177664∧X.length+1≤70368744177664:=⟨by omega,by omega⟩
     clear k cb
     rcases hop with rfl | rfl | rfl | rfl | rfl | rfl | rfl | rfl
     · simp only[aX,Tree.ok,hd,aY,Nat.ble_eq,Bool.and_eq_true,and_true,true_and,Bool.true_eq_false,Bool.false_eq_true,false_implies,true_implies,hin,Int.toNat_natCast,c0,c1,c2,c3,c4,c5,c6,c7,isInt,aR,aA,aj,au,af,w,beq_self_eq_true,bJ,hu,Int.reduceBEq]
       exact⟨rfl,B1,bU wa,B,fin⟩
     · simp only[aX,Tree.ok,hd,aY,Nat.ble_eq,Bool.and_eq_true,and_true,true_and,Bool.true_eq_false,Bool.false_eq_true,false_implies,true_implies,hin,Int.toNat_natCast,c0,c1,c2,c3,c4,c5,c6,c7,isInt,aR,aA,aj,au,af,w,beq_self_eq_true,bJ,hu,Int.reduceBEq]
       exact⟨rfl,B1,bU wa,B,fin⟩
     · simp only[aX,Tree.ok,hd,aY,Nat.ble_eq,Bool.and_eq_true,and_true,true_and,Bool.true_eq_false,Bool.false_eq_true,false_implies,true_implies,hin,Int.toNat_natCast,c0,c1,c2,c3,c4,c5,c6,c7,isInt,aR,aA,aj,au,af,w,beq_self_eq_true,bJ,hu,Int.reduceBEq]
       exact⟨rfl,B1,bU wa,B,fin⟩
     · simp only[aX,Tree.ok,hd,aY,Nat.ble_eq,Bool.and_eq_true,and_true,true_and,Bool.true_eq_false,Bool.false_eq_true,false_implies,true_implies,hin,Int.toNat_natCast,c0,c1,c2,c3,c4,c5,c6,c7,isInt,aR,aA,aj,au,af,w,beq_self_eq_true,bJ,hu,Int.reduceBEq]
       exact⟨rfl,B1,bU wa,B,fin⟩
     · simp only[aX,Tree.ok,hd,aY,Nat.ble_eq,Bool.and_eq_true,and_true,true_and,Bool.true_eq_false,Bool.false_eq_true,false_implies,true_implies,hin,Int.toNat_natCast,c0,c1,c2,c3,c4,c5,c6,c7,isInt,aR,aA,aj,au,af,w,beq_self_eq_true,bJ,hu,Int.reduceBEq]
       exact⟨rfl,B1,bU wa,B,fin⟩
     · simp only[aX,Tree.ok,hd,aY,Nat.ble_eq,Bool.and_eq_true,and_true,true_and,Bool.true_eq_false,Bool.false_eq_true,false_implies,true_implies,hin,Int.toNat_natCast,c0,c1,c2,c3,c4,c5,c6,c7,isInt,aR,aA,aj,au,af,w,beq_self_eq_true,bJ,hu,Int.reduceBEq]
       exact⟨rfl,B1,bU wa,B,fin⟩
     · simp only[aX,Tree.ok,hd,aY,Nat.ble_eq,Bool.and_eq_true,and_true,true_and,Bool.true_eq_false,Bool.false_eq_true,false_implies,true_implies,hin,Int.toNat_natCast,c0,c1,c2,c3,c4,c5,c6,c7,isInt,aR,aA,aj,au,af,w,beq_self_eq_true,bJ,hu,Int.reduceBEq]
       exact⟨rfl,B1,bU wa,B,fin⟩
     · simp only[aX,Tree.ok,hd,aY,Nat.ble_eq,Bool.and_eq_true,and_true,true_and,Bool.true_eq_false,Bool.false_eq_true,false_implies,true_implies,hin,Int.toNat_natCast,c0,c1,c2,c3,c4,c5,c6,c7,isInt,aR,aA,aj,au,af,w,beq_self_eq_true,bJ,hu,Int.reduceBEq]
       exact⟨rfl,B1,bU wa,B,fin⟩
    |false=>
     have m : ∀c:Int,gR c=true→(op==c)=false:=fun c hc=>by cases h:op==c with | false=>rfl | true=>rw[eq_of_beq h,hc] at kR;cases kR
     have B1:(X.length+1)*1≤70368744177664∧X.length+1≤70368744177664:=⟨by omega,by omega⟩
     by_cases vu:op=14
     · have GY:(op==14)=true:=by rw[vu];rfl
       simp only[aX,Tree.ok,hd,aY,Nat.ble_eq,Bool.and_eq_true,and_true,true_and,Bool.true_eq_false,Bool.false_eq_true,false_implies,true_implies,hin,Int.toNat_natCast,c0,c1,c2,c3,c4,c5,c6,c7,isInt,aR,aA,aj,au,af,w,beq_self_eq_true,cb,hu,Int.reduceBEq,n2,n3,n4,m 12 rfl,m 13 rfl,m 16 rfl,m 32 rfl,m 33 rfl,m 34 rfl,m 35 rfl,m 36 rfl,E1,GY]
       refine⟨rfl,B1,bU ⟨by omega,by omega⟩,⟨by omega,by omega⟩,?_⟩
       have k2:=Ep (l:=l) (i:=i) (op:=op) (r:=r) (b:=b) (nn:=nn) (ll:=ll) (le:=le) (o:=o) hi wa GU (by omega) tg.length 0 (X++[.sc (.int .u8 ((op%256).toNat:Int))]++qU tg.length) (by omega) (by simp only[List.length_append,List.length_cons,List.length_nil,q6];omega)
        (gS (by simp[cU,show gw 14=false from rfl,show gR 14=false from rfl,show eJ 14=false from rfl,vu,bt,qU]) (by simp[cU,show gw 14=false from rfl,show gR 14=false from rfl,show eJ 14=false from rfl,vu,bt,qU]) k)
       simp only[List.length_append,List.length_cons,List.length_nil,q6] at k2
       exact k2
     · have GY:(op==14)=false:=by simpa using vu
       by_cases h63:op=63
       · have Hv:(op==63)=true:=by rw[h63];rfl
         simp only[aX,Tree.ok,hd,aY,Nat.ble_eq,Bool.and_eq_true,and_true,true_and,Bool.true_eq_false,Bool.false_eq_true,false_implies,true_implies,hin,Int.toNat_natCast,c0,c1,c2,c3,c4,c5,c6,c7,isInt,aR,aA,aj,au,af,w,beq_self_eq_true,cb,hu,Int.reduceBEq,n2,n3,n4,m 12 rfl,m 13 rfl,m 16 rfl,m 32 rfl,m 33 rfl,m 34 rfl,m 35 rfl,m 36 rfl,E1,GY,Hv]
         exact⟨rfl,B1,⟨by omega,by omega⟩,gS (by simp[cU,show gw 63=false from rfl,show gR 63=false from rfl,show eJ 63=false from rfl,h63,bt]) (by simp[cU,show gw 63=false from rfl,show gR 63=false from rfl,show eJ 63=false from rfl,h63,bt]) k⟩
       · have Hv:(op==63)=false:=by simpa using h63
         by_cases vv:op=64
         · have Jh:(op==64)=true:=by rw[vv];rfl
           simp only[aX,Tree.ok,hd,aY,Nat.ble_eq,Bool.and_eq_true,and_true,true_and,Bool.true_eq_false,Bool.false_eq_true,false_implies,true_implies,hin,Int.toNat_natCast,c0,c1,c2,c3,c4,c5,c6,c7,isInt,aR,aA,aj,au,af,w,beq_self_eq_true,cb,hu,Int.reduceBEq,n2,n3,n4,m 12 rfl,m 13 rfl,m 16 rfl,m 32 rfl,m 33 rfl,m 34 rfl,m 35 rfl,m 36 rfl,E1,GY,Hv,Jh]
           exact⟨rfl,B1,⟨by omega,by omega⟩,gS (by simp[cU,show gw 64=false from rfl,show gR 64=false from rfl,show eJ 64=false from rfl,vv,bt]) (by simp[cU,show gw 64=false from rfl,show gR 64=false from rfl,show eJ 64=false from rfl,vv,bt]) k⟩
         · have Jh:(op==64)=false:=by simpa using vv
           by_cases vw:op=65
           · have JH:(op==65)=true:=by rw[vw];rfl
             simp only[aX,Tree.ok,hd,aY,Nat.ble_eq,Bool.and_eq_true,and_true,true_and,Bool.true_eq_false,Bool.false_eq_true,false_implies,true_implies,hin,Int.toNat_natCast,c0,c1,c2,c3,c4,c5,c6,c7,isInt,aR,aA,aj,au,af,w,beq_self_eq_true,cb,hu,Int.reduceBEq,n2,n3,n4,m 12 rfl,m 13 rfl,m 16 rfl,m 32 rfl,m 33 rfl,m 34 rfl,m 35 rfl,m 36 rfl,E1,GY,Hv,Jh,JH]
             exact⟨rfl,B1,AP wn,⟨by omega,by omega⟩,gS (by simp[cU,show gw 65=false from rfl,show gR 65=false from rfl,show eJ 65=false from rfl,vw,bt,qS]) (by simp[cU,show gw 65=false from rfl,show gR 65=false from rfl,show eJ 65=false from rfl,vw,bt,jS];omega) k⟩
           · have JH:(op==65)=false:=by simpa using vw
             cases hst:eJ op with
             |true=>
              rw[hst] at a1
              simp only[aX,Tree.ok,hd,aY,Nat.ble_eq,Bool.and_eq_true,and_true,true_and,Bool.true_eq_false,Bool.false_eq_true,false_implies,true_implies,hin,Int.toNat_natCast,c0,c1,c2,c3,c4,c5,c6,c7,isInt,aR,aA,aj,au,af,w,beq_self_eq_true,cb,hu,Int.reduceBEq,n2,n3,n4,m 12 rfl,m 13 rfl,m 16 rfl,m 32 rfl,m 33 rfl,m 34 rfl,m 35 rfl,m 36 rfl,E1,GY,Hv,Jh,JH]
              exact⟨rfl,B1,a1,bU wa,⟨by omega,by omega⟩,bU wb,⟨by omega,by omega⟩,gS (by simp[cU,dB,kQ,kR,vu,h63,vv,vw,hst,bt,qU]) (by simp[cU,dB,kQ,kR,vu,h63,vv,vw,hst,bt,jU];omega) k⟩
             |false=>
              rw[hst] at a1
              simp only[aX,Tree.ok,hd,aY,Nat.ble_eq,Bool.and_eq_true,and_true,true_and,Bool.true_eq_false,Bool.false_eq_true,false_implies,true_implies,hin,Int.toNat_natCast,c0,c1,c2,c3,c4,c5,c6,c7,isInt,aR,aA,aj,au,af,w,beq_self_eq_true,cb,hu,Int.reduceBEq,n2,n3,n4,m 12 rfl,m 13 rfl,m 16 rfl,m 32 rfl,m 33 rfl,m 34 rfl,m 35 rfl,m 36 rfl,E1,GY,Hv,Jh,JH]
              exact⟨rfl,B1,a1,gS (by simp[cU,dB,kQ,kR,vu,h63,vv,vw,hst,bt]) (by simp[cU,dB,kQ,kR,vu,h63,vv,vw,hst,bt]) k⟩
theorem C2 {l:List Ins} (hw:so l) (hc:bZ l≤1000000) (IH : ∀x∈l,vp x.l∧vp x.e) : ∀(n i:Nat) (X:List PV),i+n=l.length→X.length+20*bZ (l.drop i)≤1000000000 →
  Am.Good Tryd.prog env (AQ l X i X.length) (.ret (.os (some 1) (X++bt (iW (l.drop i))).length 1 (X++bt (iW (l.drop i)))) [.dead,.tok]):=by
 have Dv:=fG l
 intro n
 induction n with
 |zero=>
  intro i X hi hX
  have hd:decide ((i:Int)<(l.length:Int))=false:=decide_eq_false (by omega)
  refine aq names (xm l X.length X i 0 0 0 0 0 [] [] [] 0 false jU jS qU qS jL qL) ?_
  simp only[aX,Tree.ok,hd,and_true,Bool.false_eq_true,false_implies,true_implies,true_and]
  rw[List.drop_eq_nil_of_le (by omega)]
  exact oy (by simp[iW,bt]) (by simp[iW,bt]) rfl
 |succ n ih=>
  intro i X hi hX
  have vr:i<l.length:=by omega
  have hmem:l[i]∈l:=List.getElem_mem vr
  have hcx:=dx hmem
  have hb:=vk l[i]
  have hcd:bZ (l.drop i)=fF l[i]+bZ (l.drop (i+1)):=by rw[List.drop_eq_getElem_cons vr,bZ]
  have k:=ih (i+1) (X++bt (cU l[i])) (by omega) (by rw[List.length_append,aE];omega)
  rw[show(X++bt (cU l[i]))++bt (iW (l.drop (i+1)))=X++bt (iW (l.drop i)) by rw[xl vr,kr,List.append_assoc]] at k
  have wU:l[i]? = some l[i]:=List.getElem?_eq_getElem vr
  have En:=gL hw hmem
  have kq:=IH l[i] hmem
  generalize l[i]=x at *
  obtain⟨op,r,a,b,nn,tg,ll,le⟩:=x
  exact C1 wU (by omega) En (by omega) (by omega) kq.1 kq.2 k
theorem C3 : ∀l:List Ins,so l→bZ l≤1000000→vp l:=by
 refine ko fun l IH hw hc X hX=> ?_
 have KX : ∀x∈l,vp x.l∧vp x.e:=fun x hx=>by
  have h2:=gL hw hx
  have h3:=dx hx
  have h4:=IH x hx
  obtain⟨op,r,a,b,nn,tg,ll,le⟩:=x
  simp only[Ins.l,Ins.e,fF,Dj] at h2 h3 h4 ⊢
  exact⟨h4.1 h2.2.2.2.2.2.2.1.2 (by omega),h4.2 h2.2.2.2.2.2.2.2.2 (by omega)⟩
 have k:=C2 hw hc KX l.length 0 X (by omega) (by rw[List.drop_zero];exact hX)
 rw[List.drop_zero,List.length_append,aE] at k
 rw[cM,dI]
 refine ak names (Eo l X.length X) ?_
 simp only[CZ,Tree.ok]
 exact Good.CM (r:=[]) rfl rfl k
theorem Er {l:List Ins} (hw:so l) (hc:bZ l≤1000000):aB Tryd.prog env 32 [.os none 0 0 [],aL l] [] (.os (some 1) (iW l).length 1 (bt (iW l))) [.dead,.tok]:=by
 have h:=C3 l hw hc [] (by simp only[List.length_nil];omega)
 rw[cM,dI,List.length_nil,Nat.zero_add,List.nil_append] at h
 exact aB.iL (Nat.le_refl 1) h
end Go.Proofs.YtddfgnmjecogdaaDoor.N
end
