/-
The document's bytes of instructions.
-/
import Derived.Test.YtddfgnmjecogdaaDoorMJ
section
set_option linter.unusedSimpArgs false
set_option linter.unusedVariables false
namespace Go.Proofs.YtddfgnmjecogdaaDoor.N
open Go Go.Am
def MJ (l:List Ins) (k:Nat) (X:List PV) (i:Nat) (op r a b nn:Int) (tg:List Int) (ll le:List Ins) (w:Nat) (W:List PV):FuncId→Nat→Nat→Option (AV→AV):=fk [(34,6,4,iV op r a b nn tg ll le),(34,5,1,sI .i64 ((i+1:Nat):Int))]
def MK (l:List Ins) (k:Nat) (X:List PV) (i:Nat) (op r a b nn:Int) (tg:List Int) (ll le:List Ins) (w:Nat) (W:List PV) (f:FuncId) (args:List AV) (m:Mem):Option (AV×Mem):=cond (Nat.beq f 58) (some (.p (.ps w 1 W),m)) none
def LL (op r a b nn:Int) (tg:List Int) (ll le:List Ins) (al:Int) (st li wh:Bool) (J J':Int→Nat) (Q Q':Int→List PV) (JJ:List PV→Nat) (QQ:List PV→List PV) (f:FuncId) (args:List AV) (m:Mem):Option (AV×Mem):=
 cond (Nat.beq f 36) (match args with | [.p (.sc (.int _ n))]=>some (.p (.ps (J n) 1 (Q n)),m) | _=>none)
 (cond (Nat.beq f 77) (match args with | [.p (.sc (.int _ n))]=>some (.p (.ps (J' n) 1 (Q' n)),m) | _=>none)
 (cond (Nat.beq f 34) (match args with | [.p (.ps _ _ cs)]=>some (.p (.ps (JJ cs) 1 (QQ cs)),m) | _=>none)
 (cond (Nat.beq f 67) (some (.aO [sI .u32 al,sB st],m)) (cond (Nat.beq f 68) (some (sB li,m)) (cond (Nat.beq f 70) (some (sB wh,m)) none)))))
def ML (k:Nat) (X:List PV) (j:Nat) (op r a b nn:Int) (tg:List Int) (ll le:List Ins) (t:Int) (J:Int→Nat) (Q:Int→List PV) (f:FuncId) (args:List AV) (m:Mem):Option (AV×Mem):=
 cond (Nat.beq f 36) (match args with | [.p (.sc (.int _ n))]=>some (.p (.ps (J n) 1 (Q n)),m) | _=>none) none
def MM (k:Nat) (X:List PV) (j:Nat) (op r a b nn:Int) (tg:List Int) (ll le:List Ins) (t:Int) (J:Int→Nat) (Q:Int→List PV):FuncId→Nat→Nat→Option (AV→AV):=fk [(58,21,5,sI .u32 t),(58,20,1,sI .i64 ((j+1:Nat):Int))]
noncomputable def Ja:dR:=cr bk aW [(34,0)] [] []
def KS:Sc:= .fin
noncomputable def CX (l:List Ins):Tree:=
 (.at (an Tryd.prog env 34 0 [AV.p (PV.ps l.length 8 (aa l)),AV.os Option.none 0 0 [],AV.p (PV.sc (Value.int IntKind.i64 0))] ([]) 0 19))
theorem El (l:List Ins):bC Tryd.prog env Ja 1000000 34 ([aL l]) ([]) KS=CX l:=by kernel_rfl
noncomputable def GR (l:List Ins) (k:Nat) (X:List PV) (i:Nat) (op:Int) (r:Int) (a:Int) (b:Int) (nn:Int) (tg:List Int) (ll:List Ins) (le:List Ins) (w:Nat) (W:List PV):dR:=qD (MK l k X i op r a b nn tg ll le w W) aW [(34,0)] [(34,0,1)] [(34,6,3),(34,6,4),(34,6,6)] (MJ l k X i op r a b nn tg ll le w W)
def Jb:Sc:= .fin
noncomputable def vl (l:List Ins) (k:Nat) (X:List PV) (i:Nat) (op:Int) (r:Int) (a:Int) (b:Int) (nn:Int) (tg:List Int) (ll:List Ins) (le:List Ins) (w:Nat) (W:List PV):Tree:=
 (.test (decide ((↑i:Int)<(↑l.length:Int)))
  (.must (ep (↑i:Int) l.length&&true&&true)
   (.must (isInt IntKind.i64 ((aa l).getD ((↑i:Int).toNat*8) PV.bad)&&(isInt IntKind.i64 ((aa l).getD ((↑i:Int).toNat*8+1) PV.bad)&&(isInt IntKind.u32 ((aa l).getD ((↑i:Int).toNat*8+1+1) PV.bad)&&(isInt IntKind.u32 ((aa l).getD ((↑i:Int).toNat*8+1+1+1) PV.bad)&&(isInt IntKind.i32 ((aa l).getD ((↑i:Int).toNat*8+1+1+1+1) PV.bad)&&(aR ((aa l).getD ((↑i:Int).toNat*8+1+1+1+1+1) PV.bad)&&(aR ((aa l).getD ((↑i:Int).toNat*8+1+1+1+1+1+1) PV.bad)&&(aR ((aa l).getD ((↑i:Int).toNat*8+1+1+1+1+1+1+1) PV.bad)&&true)))))))&&true)
    (.need (AV.agg [AV.p (PV.sc (Value.int IntKind.i64 (aA ((aa l).getD ((↑i:Int).toNat*8) PV.bad)))),AV.p (PV.sc (Value.int IntKind.i64 (aA ((aa l).getD ((↑i:Int).toNat*8+1) PV.bad)))),AV.p (PV.sc (Value.int IntKind.u32 (aA ((aa l).getD ((↑i:Int).toNat*8+1+1) PV.bad)))),AV.p (PV.sc (Value.int IntKind.u32 (aA ((aa l).getD ((↑i:Int).toNat*8+1+1+1) PV.bad)))),AV.p (PV.sc (Value.int IntKind.i32 (aA ((aa l).getD ((↑i:Int).toNat*8+1+1+1+1) PV.bad)))),AV.p (PV.ps (aj ((aa l).getD ((↑i:Int).toNat*8+1+1+1+1+1) PV.bad)) (au ((aa l).getD ((↑i:Int).toNat*8+1+1+1+1+1) PV.bad)) (af ((aa l).getD ((↑i:Int).toNat*8+1+1+1+1+1) PV.bad))),AV.p (PV.ps (aj ((aa l).getD ((↑i:Int).toNat*8+1+1+1+1+1+1) PV.bad)) (au ((aa l).getD ((↑i:Int).toNat*8+1+1+1+1+1+1) PV.bad)) (af ((aa l).getD ((↑i:Int).toNat*8+1+1+1+1+1+1) PV.bad))),AV.p (PV.ps (aj ((aa l).getD ((↑i:Int).toNat*8+1+1+1+1+1+1+1) PV.bad)) (au ((aa l).getD ((↑i:Int).toNat*8+1+1+1+1+1+1+1) PV.bad)) (af ((aa l).getD ((↑i:Int).toNat*8+1+1+1+1+1+1+1) PV.bad)))]=iV op r a b nn tg ll le)
     (.call ⟨58,[AV.agg [AV.p (PV.sc (Value.int IntKind.i64 op)),AV.p (PV.sc (Value.int IntKind.i64 r)),AV.p (PV.sc (Value.int IntKind.u32 a)),AV.p (PV.sc (Value.int IntKind.u32 b)),AV.p (PV.sc (Value.int IntKind.i32 nn)),AV.p (PV.ps tg.length 1 (bL IntKind.u32 tg)),AV.p (PV.ps ll.length 8 (aa ll)),AV.p (PV.ps le.length 8 (aa le))]],[],AV.p (PV.ps w 1 W),[]⟩
      (.must (((k+w)*1).ble aJ&&(k+w).ble aJ&&true)
       (.need (AV.p (PV.sc (Value.int IntKind.i64 (IntKind.i64.wrap ((↑i:Int)+1))))=sI IntKind.i64 (↑(i+1):Int))
        (.at (an Tryd.prog env 34 0 [AV.p (PV.ps l.length 8 (aa l)),AV.os (Option.some 0) (k+w) 1 (X++W),AV.p (PV.sc (Value.int IntKind.i64 (↑(i+1):Int)))] ([av.tok]) 0 19))))))))
  (.out (Out.ret (AV.os (Option.some 0) k 1 X) [av.tok])))
theorem xk (l:List Ins) (k:Nat) (X:List PV) (i:Nat) (op:Int) (r:Int) (a:Int) (b:Int) (nn:Int) (tg:List Int) (ll:List Ins) (le:List Ins) (w:Nat) (W:List PV):grow Tryd.prog env (GR l k X i op r a b nn tg ll le w W) 1000000 true (an Tryd.prog env 34 0 ([aL l,AV.os (Option.some 0) k 1 X,sI IntKind.i64 (↑i:Int)]) ([av.tok]) 0 19) Jb atEnd=vl l k X i op r a b nn tg ll le w W:=by kernel_rfl
noncomputable def Jc (op:Int) (r:Int) (a:Int) (b:Int) (nn:Int) (tg:List Int) (ll:List Ins) (le:List Ins) (al:Int) (st:Bool) (li:Bool) (wh:Bool) (J:Int→Nat) (J':Int→Nat) (Q:Int→List PV) (Q':Int→List PV) (JJ:List PV→Nat) (QQ:List PV→List PV):dR:=cr (LL op r a b nn tg ll le al st li wh J J' Q Q' JJ QQ) (LL op r a b nn tg ll le al st li wh J J' Q Q' JJ QQ) [(58,5)] [(58,0,0),(58,0,1),(58,0,2),(58,0,3),(58,0,4),(58,0,7),(58,26,4),(58,0,8),(58,0,9)] [(58,5,4),(58,5,5),(58,6,4),(58,8,2),(58,9,4),(58,10,2),(58,12,4),(58,13,2),(58,15,4),(58,17,6),(58,24,4),(58,25,4),(58,29,4)]
def KT:Sc:=(.fork .fin (.fork .fin (.fork .fin (.fork .fin (.fork .fin (.fork (.lit .fin) .fin))))))
noncomputable def gq (op:Int) (r:Int) (a:Int) (b:Int) (nn:Int) (tg:List Int) (ll:List Ins) (le:List Ins) (al:Int) (st:Bool) (li:Bool) (wh:Bool) (J:Int→Nat) (J':Int→Nat) (Q:Int→List PV) (Q':Int→List PV) (JJ:List PV→Nat) (QQ:List PV→List PV):Tree:=
 (.call ⟨67,[AV.p (PV.sc (Value.int IntKind.i64 op))],[],AV.aO [AV.p (PV.sc (Value.int IntKind.u32 al)),AV.p (PV.sc (Value.bool st))],[]⟩
  (.call ⟨68,[AV.p (PV.sc (Value.int IntKind.i64 op))],[],AV.p (PV.sc (Value.bool li)),[]⟩
   (.test (li)
    (.must (ep r 2&&true&&true)
     (.must (isInt IntKind.u8 ([PV.sc (Value.int IntKind.u8 64),PV.sc (Value.int IntKind.u8 127)].getD (r.toNat*1) PV.bad)&&true)
      (.call ⟨34,[AV.p (PV.ps ll.length 8 (aa ll))],[],AV.p (PV.ps (JJ (aa ll)) 1 (QQ (aa ll))),[]⟩
       (.must (((2+JJ (aa ll))*1).ble aJ&&(2+JJ (aa ll)).ble aJ&&true)
        (.test (decide ((↑le.length:Int)>0))
         (.must (((2+JJ (aa ll)+1)*1).ble aJ&&(2+JJ (aa ll)+1).ble aJ&&true)
          (.call ⟨34,[AV.p (PV.ps le.length 8 (aa le))],[],AV.p (PV.ps (JJ (aa le)) 1 (QQ (aa le))),[]⟩
           (.must (((2+JJ (aa ll)+1+JJ (aa le))*1).ble aJ&&(2+JJ (aa ll)+1+JJ (aa le)).ble aJ&&true)
            (.must (((2+JJ (aa ll)+1+JJ (aa le)+1)*1).ble aJ&&(2+JJ (aa ll)+1+JJ (aa le)+1).ble aJ&&true)
             (.out (Out.ret (AV.os (Option.some 0) (2+JJ (aa ll)+1+JJ (aa le)+1) 1 (PV.sc (Value.int IntKind.u8 (IntKind.u8.wrap op))::PV.sc (Value.int IntKind.u8 (aA ([PV.sc (Value.int IntKind.u8 64),PV.sc (Value.int IntKind.u8 127)].getD (r.toNat*1) PV.bad)))::((([].append (QQ (aa ll))).append [PV.sc (Value.int IntKind.u8 5)]).append (QQ (aa le))).append [PV.sc (Value.int IntKind.u8 11)])) [av.tok]))))))
         (.must (((2+JJ (aa ll)+1)*1).ble aJ&&(2+JJ (aa ll)+1).ble aJ&&true)
          (.out (Out.ret (AV.os (Option.some 0) (2+JJ (aa ll)+1) 1 (PV.sc (Value.int IntKind.u8 (IntKind.u8.wrap op))::PV.sc (Value.int IntKind.u8 (aA ([PV.sc (Value.int IntKind.u8 64),PV.sc (Value.int IntKind.u8 127)].getD (r.toNat*1) PV.bad)))::([].append (QQ (aa ll))).append [PV.sc (Value.int IntKind.u8 11)])) [av.tok]))))))))
    (.test (op==17)
     (.call ⟨36,[AV.p (PV.sc (Value.int IntKind.u32 a))],[],AV.p (PV.ps (J a) 1 (Q a)),[]⟩
      (.must (((1+J a)*1).ble aJ&&(1+J a).ble aJ&&true)
       (.must (((1+J a+1)*1).ble aJ&&(1+J a+1).ble aJ&&true)
        (.out (Out.ret (AV.os (Option.some 0) (1+J a+1) 1 (PV.sc (Value.int IntKind.u8 (IntKind.u8.wrap op))::([].append (Q a)).append [PV.sc (Value.int IntKind.u8 0)])) [av.tok])))))
     (.call ⟨70,[AV.p (PV.sc (Value.int IntKind.i64 op))],[],AV.p (PV.sc (Value.bool wh)),[]⟩
      (.test (wh)
       (.call ⟨36,[AV.p (PV.sc (Value.int IntKind.u32 a))],[],AV.p (PV.ps (J a) 1 (Q a)),[]⟩
        (.must (((1+J a)*1).ble aJ&&(1+J a).ble aJ&&true)
         (.out (Out.ret (AV.os (Option.some 0) (1+J a) 1 (PV.sc (Value.int IntKind.u8 (IntKind.u8.wrap op))::[].append (Q a))) [av.tok]))))
       (.test (op==14)
        (.call ⟨36,[AV.p (PV.sc (Value.int IntKind.u32 (IntKind.u32.wrap (↑tg.length:Int))))],[],AV.p (PV.ps (J (IntKind.u32.wrap (↑tg.length:Int))) 1 (Q (IntKind.u32.wrap (↑tg.length:Int)))),[]⟩
         (.must (((1+J (IntKind.u32.wrap (↑tg.length:Int)))*1).ble aJ&&(1+J (IntKind.u32.wrap (↑tg.length:Int))).ble aJ&&true)
          (.at (an Tryd.prog env 58 5 [AV.mp 0 0,AV.os (Option.some 1) (1+J (IntKind.u32.wrap (↑tg.length:Int))) 1 (PV.sc (Value.int IntKind.u8 (IntKind.u8.wrap op))::[].append (Q (IntKind.u32.wrap (↑tg.length:Int)))),AV.p (PV.sc (Value.int IntKind.i64 0))] ([av.pc [PV.sc (Value.int IntKind.i64 op),PV.sc (Value.int IntKind.i64 r),PV.sc (Value.int IntKind.u32 a),PV.sc (Value.int IntKind.u32 b),PV.sc (Value.int IntKind.i32 nn),PV.ps tg.length 1 (bL IntKind.u32 tg),PV.ps ll.length 8 (aa ll),PV.ps le.length 8 (aa le)],av.tok]) 0 135))))
        (.test (st)
         (.call ⟨36,[AV.p (PV.sc (Value.int IntKind.u32 a))],[],AV.p (PV.ps (J a) 1 (Q a)),[]⟩
          (.must (((1+J a)*1).ble aJ&&(1+J a).ble aJ&&true)
           (.call ⟨36,[AV.p (PV.sc (Value.int IntKind.u32 b))],[],AV.p (PV.ps (J b) 1 (Q b)),[]⟩
            (.must (((1+J a+J b)*1).ble aJ&&(1+J a+J b).ble aJ&&true)
             (.out (Out.ret (AV.os (Option.some 0) (1+J a+J b) 1 (PV.sc (Value.int IntKind.u8 (IntKind.u8.wrap op))::([].append (Q a)).append (Q b))) [av.tok]))))))
         (.test (op==63)
          (.out (Out.ret (AV.os (Option.some 0) 2 1 [PV.sc (Value.int IntKind.u8 (IntKind.u8.wrap op)),PV.sc (Value.int IntKind.u8 0)]) [av.tok]))
          (.test (op==64)
           (.out (Out.ret (AV.os (Option.some 0) 2 1 [PV.sc (Value.int IntKind.u8 (IntKind.u8.wrap op)),PV.sc (Value.int IntKind.u8 0)]) [av.tok]))
           (.test (op==65)
            (.call ⟨77,[AV.p (PV.sc (Value.int IntKind.i32 nn))],[],AV.p (PV.ps (J' nn) 1 (Q' nn)),[]⟩
             (.must (((1+J' nn)*1).ble aJ&&(1+J' nn).ble aJ&&true)
              (.out (Out.ret (AV.os (Option.some 0) (1+J' nn) 1 (PV.sc (Value.int IntKind.u8 (IntKind.u8.wrap op))::[].append (Q' nn))) [av.tok]))))
            (.out (Out.ret (AV.os Option.none 1 1 [PV.sc (Value.int IntKind.u8 (IntKind.u8.wrap op))]) [])))))))))))))
theorem Em (op:Int) (r:Int) (a:Int) (b:Int) (nn:Int) (tg:List Int) (ll:List Ins) (le:List Ins) (al:Int) (st:Bool) (li:Bool) (wh:Bool) (J:Int→Nat) (J':Int→Nat) (Q:Int→List PV) (Q':Int→List PV) (JJ:List PV→Nat) (QQ:List PV→List PV):bC Tryd.prog env (Jc op r a b nn tg ll le al st li wh J J' Q Q' JJ QQ) 1000000 58 ([iV op r a b nn tg ll le]) ([]) KT=gq op r a b nn tg ll le al st li wh J J' Q Q' JJ QQ:=by kernel_rfl
noncomputable def Jd (k:Nat) (X:List PV) (j:Nat) (op:Int) (r:Int) (a:Int) (b:Int) (nn:Int) (tg:List Int) (ll:List Ins) (le:List Ins) (t:Int) (J:Int→Nat) (Q:Int→List PV):dR:=qD (ML k X j op r a b nn tg ll le t J Q) aW [(58,5)] [(58,0,6)] [(58,21,4),(58,21,5),(58,21,7),(58,22,4)] (MM k X j op r a b nn tg ll le t J Q)
def KU:Sc:= .fin
noncomputable def yI (k:Nat) (X:List PV) (j:Nat) (op:Int) (r:Int) (a:Int) (b:Int) (nn:Int) (tg:List Int) (ll:List Ins) (le:List Ins) (t:Int) (J:Int→Nat) (Q:Int→List PV):Tree:=
 (.test (decide ((↑j:Int)<(↑tg.length:Int)))
  (.must (ep (↑j:Int) tg.length&&true&&true)
   (.must (isInt IntKind.u32 ((bL IntKind.u32 tg).getD ((↑j:Int).toNat*1) PV.bad)&&true)
    (.need (AV.p (PV.sc (Value.int IntKind.u32 (aA ((bL IntKind.u32 tg).getD ((↑j:Int).toNat*1) PV.bad))))=sI IntKind.u32 t)
     (.call ⟨36,[AV.p (PV.sc (Value.int IntKind.u32 t))],[],AV.p (PV.ps (J t) 1 (Q t)),[]⟩
      (.must (((k+J t)*1).ble aJ&&(k+J t).ble aJ&&true)
       (.need (AV.p (PV.sc (Value.int IntKind.i64 (IntKind.i64.wrap ((↑j:Int)+1))))=sI IntKind.i64 (↑(j+1):Int))
        (.at (an Tryd.prog env 58 5 [AV.mp 0 0,AV.os (Option.some 1) (k+J t) 1 (X++Q t),AV.p (PV.sc (Value.int IntKind.i64 (↑(j+1):Int)))] ([av.pc [PV.sc (Value.int IntKind.i64 op),PV.sc (Value.int IntKind.i64 r),PV.sc (Value.int IntKind.u32 a),PV.sc (Value.int IntKind.u32 b),PV.sc (Value.int IntKind.i32 nn),PV.ps tg.length 1 (bL IntKind.u32 tg),PV.ps ll.length 8 (aa ll),PV.ps le.length 8 (aa le)],av.tok]) 0 135))))))))
  (.call ⟨36,[AV.p (PV.sc (Value.int IntKind.u32 a))],[],AV.p (PV.ps (J a) 1 (Q a)),[]⟩
   (.must (((k+J a)*1).ble aJ&&(k+J a).ble aJ&&true)
    (.out (Out.ret (AV.os (Option.some 0) (k+J a) 1 (X++Q a)) [av.tok])))))
theorem zM (k:Nat) (X:List PV) (j:Nat) (op:Int) (r:Int) (a:Int) (b:Int) (nn:Int) (tg:List Int) (ll:List Ins) (le:List Ins) (t:Int) (J:Int→Nat) (Q:Int→List PV):grow Tryd.prog env (Jd k X j op r a b nn tg ll le t J Q) 1000000 true (an Tryd.prog env 58 5 ([AV.mp 0 0,AV.os (Option.some 1) k 1 X,sI IntKind.i64 (↑j:Int)]) ([av.pc [PV.sc (Value.int IntKind.i64 op),PV.sc (Value.int IntKind.i64 r),PV.sc (Value.int IntKind.u32 a),PV.sc (Value.int IntKind.u32 b),PV.sc (Value.int IntKind.i32 nn),PV.ps tg.length 1 (bL IntKind.u32 tg),PV.ps ll.length 8 (aa ll),PV.ps le.length 8 (aa le)],av.tok]) 0 135) KU atEnd=yI k X j op r a b nn tg ll le t J Q:=by kernel_rfl
theorem zN {tg:List Int} {j:Nat} (h:j<tg.length):(bL .u32 tg).getD (j*1) .bad = .sc (.int .u32 (tg[j]'h)):=by
 simp[bL,List.getD_eq_getElem?_getD,h]
theorem oy {t:Option Nat} {n m:Nat} {X Y:List PV} {mm:Mem} (h:X=Y) (h':n=Y.length) (e:m=Y.length):Out.ret (.os t n 1 X) mm = .ret (.os t m 1 Y) mm:=by subst h;rw[h',e]
theorem GS {op r a b nn:Int} {tg:List Int} {ll le:List Ins} (ha:0≤a∧a<4294967296) (ht : ∀t∈tg,0≤t∧t<4294967296) (hl:tg.length≤1000000) : ∀(n j:Nat) (X:List PV),j+n=tg.length→X.length+5*n≤1000000000 →
  Am.Good Tryd.prog env (an Tryd.prog env 58 5 [.mp 0 0,.os (some 1) X.length 1 X,sI .i64 j] [.pc [.sc (.int .i64 op),.sc (.int .i64 r),.sc (.int .u32 a),.sc (.int .u32 b),.sc (.int .i32 nn),.ps tg.length 1 (bL .u32 tg),.ps ll.length 8 (aa ll),.ps le.length 8 (aa le)],.tok] 0 135)
    (.ret (.os (some 0) (X++(bt ((tg.drop j).flatMap fun t=>pU 4 t.toNat)++qU a)).length 1 (X++(bt ((tg.drop j).flatMap fun t=>pU 4 t.toNat)++qU a))) [.tok]):=by
 have aY:aJ=70368744177664:=rfl
 have MN:=kP a
 have KV:(qU a).length=jU a:=aE _
 intro n
 induction n with
 |zero=>
  intro j X hj hX
  have hd:decide ((j:Int)<(tg.length:Int))=false:=decide_eq_false (by omega)
  refine aq names (zM X.length X j op r a b nn tg ll le 0 jU qU) ?_
  simp only[yI,Tree.ok,hd,aY,Nat.ble_eq,Bool.and_eq_true,and_true,Bool.false_eq_true,false_implies,true_implies,true_and]
  refine⟨eo ha,⟨by omega,by omega⟩,?_⟩
  rw[List.drop_eq_nil_of_le (by omega)]
  exact oy (by simp[bt]) (by simp[bt,KV]) rfl
 |succ n ih=>
  intro j X hj hX
  have hjl:j<tg.length:=by omega
  have hd:decide ((j:Int)<(tg.length:Int))=true:=decide_eq_true (by omega)
  have xy:=kP tg[j]
  have KW:(qU tg[j]).length=jU tg[j]:=aE _
  have w:IntKind.i64.wrap ((j:Int)+1)=((j+1:Nat):Int):=by rw[cC (by omega) (by omega)];rfl
  refine aq names (zM X.length X j op r a b nn tg ll le tg[j] jU qU) ?_
  have k:=ih (j+1) (X++qU tg[j]) (by omega) (by rw[List.length_append];omega)
  have e:(X++qU tg[j])++(bt ((tg.drop (j+1)).flatMap fun t=>pU 4 t.toNat)++qU a)=X++(bt ((tg.drop j).flatMap fun t=>pU 4 t.toNat)++qU a):=by
   rw[List.drop_eq_getElem_cons hjl,List.flatMap_cons,kr]
   simp[qU]
  rw[e] at k
  have hin:ep (j:Int) tg.length=true:=by simp only[ep,Bool.and_eq_true,decide_eq_true_eq];omega
  simp only[yI,Tree.ok,hd,aY,Nat.ble_eq,Bool.and_eq_true,and_true,true_and,Bool.true_eq_false,false_implies,true_implies,hin,Int.toNat_natCast,zN hjl,isInt,aA,w,beq_self_eq_true]
  refine⟨eo (ht _ (List.getElem_mem hjl)),⟨by omega,by omega⟩,?_⟩
  rw[List.length_append,KW] at k
  exact k
def lG (l:List Ins):Prop:=aB Tryd.prog env 34 [aL l] [] (.p (.ps (jL (aa l)) 1 (qL (aa l)))) []
set_option maxHeartbeats 4000000 in
theorem CY {op r a b nn:Int} {tg:List Int} {ll le:List Ins} (hw:Dj (.mk op r a b nn tg ll le)) (hm:gw op=true→r=0∨r=1) (hc:fF (.mk op r a b nn tg ll le)≤1000000) (h1:lG ll) (h2:lG le) :
  aB Tryd.prog env 58 [iV op r a b nn tg ll le] [] (.p (.ps (cU (.mk op r a b nn tg ll le)).length 1 (bt (cU (.mk op r a b nn tg ll le))))) []:=by
 have aY:aJ=70368744177664:=rfl
 obtain⟨-,-,wa,wb,wn,⟨wt,GU⟩,-,-,-⟩:=hw
 have wa:=nA wa
 have wb:=nA wb
 have wn:=CW wn
 have GU : ∀t∈tg,0≤t∧t<4294967296:=fun t ht=>nA (GU t ht)
 simp only[fF] at hc
 have k1:jL (aa ll)≤20*bZ ll:=by rw[cM];exact eK ll
 have k2:jL (aa le)≤20*bZ le:=by rw[cM];exact eK le
 have k3:=kP a
 have k4:=kP b
 have k5:=E0 nn
 have k6:=kP tg.length
 have t1:=Em op r a b nn tg ll le (lE op) (eJ op) (gw op) (gR op) jU jS qU qS jL qL
 have q1:(qL (aa ll)).length=jL (aa ll):=by rw[dI,cM,aE]
 have q2:(qL (aa le)).length=jL (aa le):=by rw[dI,cM,aE]
 have q3:(qU a).length=jU a:=aE _
 have q4:(qU b).length=jU b:=aE _
 have q5:(qS nn).length=jS nn:=aE _
 have q6:(qU tg.length).length=jU tg.length:=aE _
 have hu:IntKind.u32.wrap (tg.length:Int)=tg.length:=oa (by omega) (by omega)
 have pure : ∀{tok:Option Nat} {m':Mem},aB Tryd.prog env 58 [iV op r a b nn tg ll le] [] (.os tok (cU (.mk op r a b nn tg ll le)).length 1 (bt (cU (.mk op r a b nn tg ll le)))) m'→aB Tryd.prog env 58 [iV op r a b nn tg ll le] [] (.p (.ps (cU (.mk op r a b nn tg ll le)).length 1 (bt (cU (.mk op r a b nn tg ll le))))) []:=fun h=>aB.pure h
 have c0:PV.sc (.int .u8 (IntKind.u8.wrap op)) = .sc (.int .u8 ((op%256).toNat:Int)):=by rw[bJ]
 cases dB:gw op with
 |true=>
  rw[dB] at t1
  have hr:ep r 2=true∧isInt .u8 ([PV.sc (.int .u8 64),PV.sc (.int .u8 127)].getD (r.toNat*1) .bad)=true∧PV.sc (.int .u8 (aA ([PV.sc (.int .u8 64),PV.sc (.int .u8 127)].getD (r.toNat*1) .bad))) = .sc (.int .u8 ((if r=1 then 127 else 64:Nat):Int)):=by
   rcases hm dB with rfl | rfl<;>exact⟨rfl,rfl,rfl⟩
  by_cases hle:le.length=0
  · have hd:decide ((le.length:Int)>0)=false:=decide_eq_false (by omega)
    refine pure (tok:=some 0) (m':=[.tok]) (ak names t1 ?_)
    simp only[gq,Tree.ok,hr.1,hr.2.1,hr.2.2,hd,aY,Nat.ble_eq,Bool.and_eq_true,and_true,true_and,Bool.true_eq_false,Bool.false_eq_true,false_implies,true_implies,c0]
    refine⟨bP op,dB▸cq op,h1,⟨by omega,by omega⟩,⟨by omega,by omega⟩,oy ?_ ?_ (by rw[aE])⟩
    · simp[cU,dB,hle,bt,dI]
    · simp[cU,dB,hle,bt,cM];omega
  · have hd:decide ((le.length:Int)>0)=true:=decide_eq_true (by omega)
    refine pure (tok:=some 0) (m':=[.tok]) (ak names t1 ?_)
    simp only[gq,Tree.ok,hr.1,hr.2.1,hr.2.2,hd,aY,Nat.ble_eq,Bool.and_eq_true,and_true,true_and,Bool.true_eq_false,Bool.false_eq_true,false_implies,true_implies,c0]
    refine⟨bP op,dB▸cq op,h1,⟨by omega,by omega⟩,⟨by omega,by omega⟩,h2,⟨by omega,by omega⟩,⟨by omega,by omega⟩,oy ?_ ?_ (by rw[aE])⟩
    · simp[cU,dB,hle,bt,dI]
    · simp[cU,dB,hle,bt,cM];omega
 |false=>
  rw[dB] at t1
  by_cases kQ:op=17
  · refine pure (tok:=some 0) (m':=[.tok]) (ak names t1 ?_)
    simp only[gq,Tree.ok,kQ,aY,Nat.ble_eq,Bool.and_eq_true,and_true,true_and,Bool.true_eq_false,Bool.false_eq_true,false_implies,true_implies,beq_self_eq_true]
    refine⟨bP 17,kQ▸dB▸cq op,eo wa,⟨by omega,by omega⟩,⟨by omega,by omega⟩,oy ?_ ?_ (by rw[aE])⟩
    · subst kQ;simp[cU,dB,bt,qU,bJ]
    · subst kQ;simp[cU,dB,bt,jU];omega
  · have d17:(op==17)=false:=by simpa using kQ
    cases kR:gR op with
    |true=>
     rw[kR] at t1
     refine pure (tok:=some 0) (m':=[.tok]) (ak names t1 ?_)
     simp only[gq,Tree.ok,d17,aY,Nat.ble_eq,Bool.and_eq_true,and_true,true_and,Bool.true_eq_false,Bool.false_eq_true,false_implies,true_implies,c0]
     refine⟨bP op,dB▸cq op,kR▸dA op,eo wa,⟨by omega,by omega⟩,oy ?_ ?_ (by rw[aE])⟩
     · simp[cU,dB,kQ,kR,bt,qU]
     · simp[cU,dB,kQ,kR,bt,jU];omega
    |false=>
     rw[kR] at t1
     by_cases vu:op=14
     · refine pure (tok:=some 0) (m':=[.tok]) (ak names t1 ?_)
       simp only[gq,Tree.ok,vu,aY,Nat.ble_eq,Bool.and_eq_true,and_true,true_and,Bool.true_eq_false,Bool.false_eq_true,false_implies,true_implies,beq_self_eq_true,hu,show((14:Int)==17)=false from rfl]
       refine⟨bP 14,vu▸dB▸cq op,vu▸kR▸dA op,eo ⟨by omega,by omega⟩,⟨by omega,by omega⟩,?_⟩
       have k:=GS (op:=14) (r:=r) (b:=b) (nn:=nn) (ll:=ll) (le:=le) wa GU (by omega) tg.length 0 (.sc (.int .u8 (IntKind.u8.wrap 14))::qU tg.length) (by omega) (by simp only[List.length_cons,q6];omega)
       subst vu
       have e:(PV.sc (.int .u8 (IntKind.u8.wrap 14))::qU tg.length)++(bt ((tg.drop 0).flatMap fun t=>pU 4 t.toNat)++qU a)=bt (cU (.mk 14 r a b nn tg ll le)):=by
        simp[cU,dB,kR,bt,qU,bJ]
       rw[e,aE] at k
       simp only[List.length_cons,q6,Nat.add_comm _ 1] at k
       exact k
     · have d14:(op==14)=false:=by simpa using vu
       cases hst:eJ op with
       |true=>
        rw[hst] at t1
        have LM : ¬(op=63∨op=64):=fun h=>by rw[mJ] at hst;omega
        have CC : ¬op=65:=fun h=>by rw[mJ] at hst;omega
        refine pure (tok:=some 0) (m':=[.tok]) (ak names t1 ?_)
        simp only[gq,Tree.ok,d17,d14,aY,Nat.ble_eq,Bool.and_eq_true,and_true,true_and,Bool.true_eq_false,Bool.false_eq_true,false_implies,true_implies,c0]
        refine⟨hst▸bP op,dB▸cq op,kR▸dA op,eo wa,⟨by omega,by omega⟩,eo wb,⟨by omega,by omega⟩,oy ?_ ?_ (by rw[aE])⟩
        · simp[cU,dB,kQ,kR,vu,LM,CC,hst,bt,qU]
        · simp[cU,dB,kQ,kR,vu,LM,CC,hst,bt,jU];omega
       |false=>
        rw[hst] at t1
        by_cases h63:op=63
        · refine pure (tok:=some 0) (m':=[.tok]) (ak names t1 ?_)
          simp only[gq,Tree.ok,d17,d14,h63,aY,Nat.ble_eq,Bool.and_eq_true,and_true,true_and,Bool.true_eq_false,Bool.false_eq_true,false_implies,true_implies,beq_self_eq_true,show((63:Int)==17)=false from rfl,show((63:Int)==14)=false from rfl]
          refine⟨h63▸hst▸bP op,h63▸dB▸cq op,h63▸kR▸dA op,oy ?_ ?_ (by rw[aE])⟩
          · subst h63;simp[cU,dB,kR,bt,bJ]
          · subst h63;simp[cU,dB,kR,bt]
        · by_cases vv:op=64
          · refine pure (tok:=some 0) (m':=[.tok]) (ak names t1 ?_)
            simp only[gq,Tree.ok,d17,d14,vv,aY,Nat.ble_eq,Bool.and_eq_true,and_true,true_and,Bool.true_eq_false,Bool.false_eq_true,false_implies,true_implies,beq_self_eq_true,show((64:Int)==17)=false from rfl,show((64:Int)==14)=false from rfl,show((64:Int)==63)=false from rfl]
            refine⟨vv▸hst▸bP op,vv▸dB▸cq op,vv▸kR▸dA op,oy ?_ ?_ (by rw[aE])⟩
            · subst vv;simp[cU,dB,kR,bt,bJ]
            · subst vv;simp[cU,dB,kR,bt]
          · have d63:(op==63)=false:=by simpa using h63
            have d64:(op==64)=false:=by simpa using vv
            by_cases vw:op=65
            · refine pure (tok:=some 0) (m':=[.tok]) (ak names t1 ?_)
              simp only[gq,Tree.ok,d17,d14,vw,aY,Nat.ble_eq,Bool.and_eq_true,and_true,true_and,Bool.true_eq_false,Bool.false_eq_true,false_implies,true_implies,beq_self_eq_true,show((65:Int)==17)=false from rfl,show((65:Int)==14)=false from rfl,show((65:Int)==63)=false from rfl,show((65:Int)==64)=false from rfl]
              refine⟨vw▸hst▸bP op,vw▸dB▸cq op,vw▸kR▸dA op,yH wn,⟨by omega,by omega⟩,oy ?_ ?_ (by rw[aE])⟩
              · subst vw;simp[cU,dB,kR,bt,bJ,qS]
              · subst vw;simp[cU,dB,kR,bt,jS];omega
            · have d65:(op==65)=false:=by simpa using vw
              refine pure (tok:=none) (m':=[]) (ak names t1 ?_)
              simp only[gq,Tree.ok,d17,d14,d63,d64,d65,aY,Nat.ble_eq,Bool.and_eq_true,and_true,true_and,Bool.true_eq_false,Bool.false_eq_true,false_implies,true_implies,c0]
              refine⟨hst▸bP op,dB▸cq op,kR▸dA op,oy ?_ ?_ (by rw[aE])⟩
              · simp[cU,dB,kQ,kR,vu,h63,vv,vw,hst,bt]
              · simp[cU,dB,kQ,kR,vu,h63,vv,vw,hst,bt]
theorem xl {l:List Ins} {i:Nat} (h:i<l.length):iW (l.drop i)=cU l[i]++iW (l.drop (i+1)):=by
 rw[List.drop_eq_getElem_cons h,iW]
theorem vn {p:Ins→Bool} : ∀{l:List Ins} {x:Ins},mM p l=true→x∈l→p x=true∧mM p x.l=true∧mM p x.e=true
 |.mk op r a b n tg ll le::l,x,h,hx=>by
  simp only[mM,Iy,Bool.and_eq_true] at h
  cases hx with
  |head=>exact⟨h.1.1,h.1.2.1,h.1.2.2⟩
  |tail _ hx=>exact vn h.2 hx
theorem gL : ∀{l:List Ins} {x:Ins},so l→x∈l→Dj x
 |y::l,x,h,hx=>by
  simp only[so] at h
  cases hx with
  |head=>exact h.1
  |tail _ hx=>exact gL h.2 hx
theorem GV {op r a b nn:Int} {tg:List Int} {ll le:List Ins} (h:eL (.mk op r a b nn tg ll le)=true):r=0∨r=1:=by
 simp only[eL,nw,Bool.and_eq_true,Bool.not_eq_true',decide_eq_false_iff_not] at h
 omega
theorem yJ {l:List Ins} (hw:so l) (hok:mM eL l=true) (hc:bZ l≤1000000) (IH : ∀x∈l,lG x.l∧lG x.e) : ∀(n i:Nat) (X:List PV),i+n=l.length→X.length+20*bZ (l.drop i)≤1000000000 →
  Am.Good Tryd.prog env (an Tryd.prog env 34 0 [aL l,.os (some 0) X.length 1 X,sI .i64 i] [.tok] 0 19) (.ret (.os (some 0) (X++bt (iW (l.drop i))).length 1 (X++bt (iW (l.drop i)))) [.tok]):=by
 have aY:aJ=70368744177664:=rfl
 have Dv:=fG l
 intro n
 induction n with
 |zero=>
  intro i X hi hX
  have hd:decide ((i:Int)<(l.length:Int))=false:=decide_eq_false (by omega)
  refine aq names (xk l X.length X i 0 0 0 0 0 [] [] [] 0 []) ?_
  simp only[vl,Tree.ok,hd,and_true,Bool.false_eq_true,false_implies,true_implies,true_and]
  rw[List.drop_eq_nil_of_le (by omega)]
  exact oy (by simp[iW,bt]) (by simp[iW,bt]) rfl
 |succ n ih=>
  intro i X hi hX
  have vr:i<l.length:=by omega
  have wU:l[i]? = some l[i]:=List.getElem?_eq_getElem vr
  have hmem:l[i]∈l:=List.getElem_mem vr
  have hd:decide ((i:Int)<(l.length:Int))=true:=decide_eq_true (by omega)
  have hin:ep (i:Int) l.length=true:=by simp only[ep,Bool.and_eq_true,decide_eq_true_eq];omega
  have hcx:=dx hmem
  have hb:=vk l[i]
  have hcd:bZ (l.drop i)=fF l[i]+bZ (l.drop (i+1)):=by rw[List.drop_eq_getElem_cons vr,bZ]
  have k:=ih (i+1) (X++bt (cU l[i])) (by omega) (by rw[List.length_append,aE];omega)
  rw[show(X++bt (cU l[i]))++bt (iW (l.drop (i+1)))=X++bt (iW (l.drop i)) by rw[xl vr,kr,List.append_assoc],List.length_append,aE] at k
  have En:=gL hw hmem
  have MO:=vn hok hmem
  have kq:=IH l[i] hmem
  generalize l[i]=x at *
  obtain⟨op,r,a,b,nn,tg,ll,le⟩:=x
  obtain⟨c0,c1,c2,c3,c4,c5,c6,c7⟩:=dS wU
  have w:IntKind.i64.wrap ((i:Int)+1)=((i+1:Nat):Int):=by rw[cC (by omega) (by omega)];rfl
  refine aq names (xk l X.length X i op r a b nn tg ll le (cU (.mk op r a b nn tg ll le)).length (bt (cU (.mk op r a b nn tg ll le)))) ?_
  simp only[vl,Tree.ok,hd,aY,Nat.ble_eq,Bool.and_eq_true,and_true,true_and,Bool.true_eq_false,false_implies,true_implies,hin,Int.toNat_natCast,Nat.add_assoc,Nat.reduceAdd,c0,c1,c2,c3,c4,c5,c6,c7,isInt,aR,aA,aj,au,af,w,beq_self_eq_true]
  exact⟨rfl,CY En (fun _=>GV MO.1) (by omega) kq.1 kq.2,⟨by omega,by omega⟩,k⟩
theorem yK : ∀l:List Ins,so l→mM eL l=true→bZ l≤1000000→lG l∧aB Tryd.prog env 34 [aL l] [] (.os (some 0) (jL (aa l)) 1 (qL (aa l))) [.tok]:=by
 refine ko fun l IH hw hok hc=> ?_
 have MP:=eK l
 have KX : ∀x∈l,lG x.l∧lG x.e:=fun x hx=>by
  have h1:=vn hok hx
  have h2:=gL hw hx
  have h3:=dx hx
  have h4:=IH x hx
  obtain⟨op,r,a,b,nn,tg,ll,le⟩:=x
  simp only[Ins.l,Ins.e,fF,Dj] at h1 h2 h3 h4 ⊢
  exact⟨(h4.1 h2.2.2.2.2.2.2.1.2 h1.2.1 (by omega)).1,(h4.2 h2.2.2.2.2.2.2.2.2 h1.2.2 (by omega)).1⟩
 suffices h:aB Tryd.prog env 34 [aL l] [] (.os (some 0) (jL (aa l)) 1 (qL (aa l))) [.tok] from⟨aB.qY h,h⟩
 rw[cM,dI]
 refine ak names (El l) ?_
 simp only[CX,Tree.ok]
 have k:=yJ hw hok hc KX l.length 0 [] (by omega) (by simp only[List.drop_zero,List.length_nil];omega)
 rw[List.drop_zero,List.nil_append,aE] at k
 exact Good.iL 3 1 (Nat.le_refl 1) rfl rfl k
end Go.Proofs.YtddfgnmjecogdaaDoor.N
end
