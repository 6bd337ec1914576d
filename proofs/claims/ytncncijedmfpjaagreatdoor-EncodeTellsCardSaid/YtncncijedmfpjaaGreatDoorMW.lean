import Derived.Test.YtncncijedmfpjaaGreatDoorMV
open Nat renaming beq→ba,mul_one→ajS,ble_eq→ajp
open Go.Proofs.Tryz renaming prog→ae
open Go.IntKind renaming i64→re,u32→aeG,u8→ajw
open List renaming flatMap→ajO,length_append→dC,length_map→my,append_assoc→tl,getElem?_eq_some_iff→dT,length_cons→ml,cons_append→Ps,length_nil→aeK,nil_append→Hm,map→aeM,getElem?_eq_getElem→da,flatMap_nil→akZ,append_nil→Hc,drop_zero→aeI
open Option renaming some→ae2
open Go.Value renaming string→ajZ,bool→amp
open Bool renaming and_eq_true→di,and_true→ajQ,true_and→ajX,and_self→akN,false_eq_true→o0
open Int renaming toNat_natCast→afm
open True renaming intro→akX
open And renaming intro→ags
noncomputable section
section
set_option linter.unusedSimpArgs false
set_option linter.unusedVariables false
namespace Go.Proofs.YtncncijedmfpjaaGreatDoor.N
open Go Go.Am
def G9 (M:Mo) (d:Int) (e:Int) (n:Nat) (Z:List PV) (J:aah) (Q:aal) (J':aah) (Q':aal) (JN:aaI) (QN:abs) (f:FuncId) (args:List AV) (m:Mem):Option (AV×Mem):=cond (ba f 26) (match args with | [.p (.sc (.int _ n))]=>some (.os (some 0) (J n) 1 (Q n),[.tok]) | _=>none)
 (cond (ba f 52) (match args with | [.p (.sc (.int _ n))]=>some (.os (some 0) (J' n) 1 (Q' n),[.tok]) | _=>none)
 (cond (ba f 53||ba f 55||ba f 57) (some (.aK [.p (.ps n 1 Z),sI .i64 e],m)) (cond (ba f 56) (some (.p (.ps n 1 Z),m)) (cond (ba f 54) (match args with | [.p (.sc (.string s))]=>some (.p (.ps (JN s) 1 (QN s)),m) | _=>none) none))))
def aih (M:Mo) (k i:Nat) (X:List PV) (e:Int) (n:Nat) (Z:List PV) (J:aah) (Q:aal) (J':aah) (Q':aal) (JN:aaI) (QN:abs) (p r:Int) (f:FuncId) (args:List AV) (m:Mem):Option (AV×Mem):=cond (ba f 26) (match args with | [.p (.sc (.int _ n))]=>some (.os (some 0) (J n) 1 (Q n),[.tok]) | _=>none)
 (cond (ba f 52) (match args with | [.p (.sc (.int _ n))]=>some (.os (some 0) (J' n) 1 (Q' n),[.tok]) | _=>none)
 (cond (ba f 53||ba f 55||ba f 57) (some (.aK [.p (.ps n 1 Z),sI .i64 e],m)) (cond (ba f 56) (some (.p (.ps n 1 Z),m)) (cond (ba f 54) (match args with | [.p (.sc (.string s))]=>some (.p (.ps (JN s) 1 (QN s)),m) | _=>none) none))))
def amd (M:Mo) (k i:Nat) (X:List PV) (e:Int) (n:Nat) (Z:List PV) (J:aah) (Q:aal) (J':aah) (Q':aal) (JN:aaI) (QN:abs) (p r:Int):FuncId→Nat→Nat→Option (AV→AV):=bJ [(27,14,4,.agg [sI .i64 p,sI .i64 r]),(27,13,1,sI .i64 ((i+1:Nat):Int))]
def aii (M:Mo) (k i:Nat) (X:List PV) (e:Int) (n:Nat) (Z:List PV) (J:aah) (Q:aal) (J':aah) (Q':aal) (JN:aaI) (QN:abs) (mo nm:ByteArray) (ty:Int) (f:FuncId) (args:List AV) (m:Mem):Option (AV×Mem):=cond (ba f 26) (match args with | [.p (.sc (.int _ n))]=>some (.os (some 0) (J n) 1 (Q n),[.tok]) | _=>none)
 (cond (ba f 52) (match args with | [.p (.sc (.int _ n))]=>some (.os (some 0) (J' n) 1 (Q' n),[.tok]) | _=>none)
 (cond (ba f 53||ba f 55||ba f 57) (some (.aK [.p (.ps n 1 Z),sI .i64 e],m)) (cond (ba f 56) (some (.p (.ps n 1 Z),m)) (cond (ba f 54) (match args with | [.p (.sc (.string s))]=>some (.p (.ps (JN s) 1 (QN s)),m) | _=>none) none))))
def ame (M:Mo) (k i:Nat) (X:List PV) (e:Int) (n:Nat) (Z:List PV) (J:aah) (Q:aal) (J':aah) (Q':aal) (JN:aaI) (QN:abs) (mo nm:ByteArray) (ty:Int):FuncId→Nat→Nat→Option (AV→AV):=bJ [(27,21,6,.p (.sc (.string mo))),(27,22,6,.p (.sc (.string nm))),(27,24,6,sI .i64 ty),(27,20,1,sI .i64 ((i+1:Nat):Int))]
def aij (M:Mo) (k i:Nat) (X:List PV) (e:Int) (n:Nat) (Z:List PV) (J:aah) (Q:aal) (J':aah) (Q':aal) (JN:aaI) (QN:abs) (ty:Int) (f:FuncId) (args:List AV) (m:Mem):Option (AV×Mem):=cond (ba f 26) (match args with | [.p (.sc (.int _ n))]=>some (.os (some 0) (J n) 1 (Q n),[.tok]) | _=>none)
 (cond (ba f 52) (match args with | [.p (.sc (.int _ n))]=>some (.os (some 0) (J' n) 1 (Q' n),[.tok]) | _=>none)
 (cond (ba f 53||ba f 55||ba f 57) (some (.aK [.p (.ps n 1 Z),sI .i64 e],m)) (cond (ba f 56) (some (.p (.ps n 1 Z),m)) (cond (ba f 54) (match args with | [.p (.sc (.string s))]=>some (.p (.ps (JN s) 1 (QN s)),m) | _=>none) none))))
def amf (M:Mo) (k i:Nat) (X:List PV) (e:Int) (n:Nat) (Z:List PV) (J:aah) (Q:aal) (J':aah) (Q':aal) (JN:aaI) (QN:abs) (ty:Int):FuncId→Nat→Nat→Option (AV→AV):=bJ [(27,8,6,sI .i64 ty),(27,7,1,sI .i64 ((i+1:Nat):Int))]
def aik (M:Mo) (k i:Nat) (X:List PV) (e:Int) (n:Nat) (Z:List PV) (J:aah) (Q:aal) (J':aah) (Q':aal) (JN:aaI) (QN:abs) (mu:Bool) (l:List Ins) (f:FuncId) (args:List AV) (m:Mem):Option (AV×Mem):=cond (ba f 26) (match args with | [.p (.sc (.int _ n))]=>some (.os (some 0) (J n) 1 (Q n),[.tok]) | _=>none)
 (cond (ba f 52) (match args with | [.p (.sc (.int _ n))]=>some (.os (some 0) (J' n) 1 (Q' n),[.tok]) | _=>none)
 (cond (ba f 53||ba f 55||ba f 57) (some (.aK [.p (.ps n 1 Z),sI .i64 e],m)) (cond (ba f 56) (some (.p (.ps n 1 Z),m)) (cond (ba f 54) (match args with | [.p (.sc (.string s))]=>some (.p (.ps (JN s) 1 (QN s)),m) | _=>none) none))))
def amg (M:Mo) (k i:Nat) (X:List PV) (e:Int) (n:Nat) (Z:List PV) (J:aah) (Q:aal) (J':aah) (Q':aal) (JN:aaI) (QN:abs) (mu:Bool) (l:List Ins):FuncId→Nat→Nat→Option (AV→AV):=bJ [(29,11,5,sB mu),(29,14,6,aL l),(29,9,1,sI .i64 ((i+1:Nat):Int))]
def ail (M:Mo) (k i:Nat) (X:List PV) (e:Int) (n:Nat) (Z:List PV) (J:aah) (Q:aal) (J':aah) (Q':aal) (JN:aaI) (QN:abs) (nm:ByteArray) (kd ix:Int) (f:FuncId) (args:List AV) (m:Mem):Option (AV×Mem):=cond (ba f 26) (match args with | [.p (.sc (.int _ n))]=>some (.os (some 0) (J n) 1 (Q n),[.tok]) | _=>none)
 (cond (ba f 52) (match args with | [.p (.sc (.int _ n))]=>some (.os (some 0) (J' n) 1 (Q' n),[.tok]) | _=>none)
 (cond (ba f 53||ba f 55||ba f 57) (some (.aK [.p (.ps n 1 Z),sI .i64 e],m)) (cond (ba f 56) (some (.p (.ps n 1 Z),m)) (cond (ba f 54) (match args with | [.p (.sc (.string s))]=>some (.p (.ps (JN s) 1 (QN s)),m) | _=>none) none))))
def amh (M:Mo) (k i:Nat) (X:List PV) (e:Int) (n:Nat) (Z:List PV) (J:aah) (Q:aal) (J':aah) (Q':aal) (JN:aaI) (QN:abs) (nm:ByteArray) (kd ix:Int):FuncId→Nat→Nat→Option (AV→AV):=bJ [(29,20,6,.p (.sc (.string nm))),(29,21,6,sI .i64 kd),(29,22,6,sI .u32 ix),(29,19,1,sI .i64 ((i+1:Nat):Int))]
def aim (M:Mo) (k i:Nat) (X:List PV) (e:Int) (n:Nat) (Z:List PV) (J:aah) (Q:aal) (J':aah) (Q':aal) (JN:aaI) (QN:abs) (l:List Ins) (fs:List Int) (f:FuncId) (args:List AV) (m:Mem):Option (AV×Mem):=cond (ba f 26) (match args with | [.p (.sc (.int _ n))]=>some (.os (some 0) (J n) 1 (Q n),[.tok]) | _=>none)
 (cond (ba f 52) (match args with | [.p (.sc (.int _ n))]=>some (.os (some 0) (J' n) 1 (Q' n),[.tok]) | _=>none)
 (cond (ba f 53||ba f 55||ba f 57) (some (.aK [.p (.ps n 1 Z),sI .i64 e],m)) (cond (ba f 56) (some (.p (.ps n 1 Z),m)) (cond (ba f 54) (match args with | [.p (.sc (.string s))]=>some (.p (.ps (JN s) 1 (QN s)),m) | _=>none) none))))
def ami (M:Mo) (k i:Nat) (X:List PV) (e:Int) (n:Nat) (Z:List PV) (J:aah) (Q:aal) (J':aah) (Q':aal) (JN:aaI) (QN:abs) (l:List Ins) (fs:List Int):FuncId→Nat→Nat→Option (AV→AV):=bJ [(30,18,6,aL l),(30,19,6,.p (.ps fs.length 1 (bN .u32 fs)))]
def ain (M:Mo) (k i:Nat) (X:List PV) (e:Int) (n:Nat) (Z:List PV) (J:aah) (Q:aal) (J':aah) (Q':aal) (JN:aaI) (QN:abs) (lo:Int) (l:List Ins) (f:FuncId) (args:List AV) (m:Mem):Option (AV×Mem):=cond (ba f 26) (match args with | [.p (.sc (.int _ n))]=>some (.os (some 0) (J n) 1 (Q n),[.tok]) | _=>none)
 (cond (ba f 52) (match args with | [.p (.sc (.int _ n))]=>some (.os (some 0) (J' n) 1 (Q' n),[.tok]) | _=>none)
 (cond (ba f 53||ba f 55||ba f 57) (some (.aK [.p (.ps n 1 Z),sI .i64 e],m)) (cond (ba f 56) (some (.p (.ps n 1 Z),m)) (cond (ba f 54) (match args with | [.p (.sc (.string s))]=>some (.p (.ps (JN s) 1 (QN s)),m) | _=>none) none))))
def amj (M:Mo) (k i:Nat) (X:List PV) (e:Int) (n:Nat) (Z:List PV) (J:aah) (Q:aal) (J':aah) (Q':aal) (JN:aaI) (QN:abs) (lo:Int) (l:List Ins):FuncId→Nat→Nat→Option (AV→AV):=bJ [(30,29,5,.agg [sI .i64 lo,aL l]),(30,28,1,sI .i64 ((i+1:Nat):Int))]
def aio (M:Mo) (k i:Nat) (X:List PV) (e:Int) (n:Nat) (Z:List PV) (J:aah) (Q:aal) (J':aah) (Q':aal) (JN:aaI) (QN:abs) (l:List Ins) (bs:List Int) (f:FuncId) (args:List AV) (m:Mem):Option (AV×Mem):=cond (ba f 26) (match args with | [.p (.sc (.int _ n))]=>some (.os (some 0) (J n) 1 (Q n),[.tok]) | _=>none)
 (cond (ba f 52) (match args with | [.p (.sc (.int _ n))]=>some (.os (some 0) (J' n) 1 (Q' n),[.tok]) | _=>none)
 (cond (ba f 53||ba f 55||ba f 57) (some (.aK [.p (.ps n 1 Z),sI .i64 e],m)) (cond (ba f 56) (some (.p (.ps n 1 Z),m)) (cond (ba f 54) (match args with | [.p (.sc (.string s))]=>some (.p (.ps (JN s) 1 (QN s)),m) | _=>none) none))))
def amk (M:Mo) (k i:Nat) (X:List PV) (e:Int) (n:Nat) (Z:List PV) (J:aah) (Q:aal) (J':aah) (Q':aal) (JN:aaI) (QN:abs) (l:List Ins) (bs:List Int):FuncId→Nat→Nat→Option (AV→AV):=bJ [(30,9,6,aL l),(30,10,6,.p (.ps bs.length 1 (bN .u8 bs))),(30,11,6,.p (.ps bs.length 1 (bN .u8 bs))),(30,7,1,sI .i64 ((i+1:Nat):Int))]
def aip (M:Mo) (k i j:Nat) (X:List PV) (e:Int) (n:Nat) (Z:List PV) (J:aah) (Q:aal) (J':aah) (Q':aal) (JN:aaI) (QN:abs) (fs:List Int) (t:Int) (f:FuncId) (args:List AV) (m:Mem):Option (AV×Mem):=cond (ba f 26) (match args with | [.p (.sc (.int _ n))]=>some (.os (some 0) (J n) 1 (Q n),[.tok]) | _=>none)
 (cond (ba f 52) (match args with | [.p (.sc (.int _ n))]=>some (.os (some 0) (J' n) 1 (Q' n),[.tok]) | _=>none)
 (cond (ba f 53||ba f 55||ba f 57) (some (.aK [.p (.ps n 1 Z),sI .i64 e],m)) (cond (ba f 56) (some (.p (.ps n 1 Z),m)) (cond (ba f 54) (match args with | [.p (.sc (.string s))]=>some (.p (.ps (JN s) 1 (QN s)),m) | _=>none) none))))
def aml (M:Mo) (k i j:Nat) (X:List PV) (e:Int) (n:Nat) (Z:List PV) (J:aah) (Q:aal) (J':aah) (Q':aal) (JN:aaI) (QN:abs) (fs:List Int) (t:Int):FuncId→Nat→Nat→Option (AV→AV):=bJ [(30,21,6,.p (.ps fs.length 1 (bN .u32 fs))),(30,23,6,.p (.ps fs.length 1 (bN .u32 fs))),(30,23,9,sI .u32 t),(30,22,1,sI .i64 ((j+1:Nat):Int)),(30,16,1,sI .i64 ((i+1:Nat):Int))]
def aiq (M:Mo) (d:Int) (L:List Li) (most:Int) (k i:Nat) (X:List PV) (e:Int) (n:Nat) (Z:List PV) (J:aah) (Q:aal) (J':aah) (Q':aal) (JN:aaI) (QN:abs) (mn mx:Int) (cap:Bool) (f:FuncId) (args:List AV) (m:Mem):Option (AV×Mem):=cond (ba f 26) (match args with | [.p (.sc (.int _ n))]=>some (.os (some 0) (J n) 1 (Q n),[.tok]) | _=>none)
 (cond (ba f 52) (match args with | [.p (.sc (.int _ n))]=>some (.os (some 0) (J' n) 1 (Q' n),[.tok]) | _=>none)
 (cond (ba f 53||ba f 55||ba f 57) (some (.aK [.p (.ps n 1 Z),sI .i64 e],m)) (cond (ba f 56) (some (.p (.ps n 1 Z),m)) (cond (ba f 54) (match args with | [.p (.sc (.string s))]=>some (.p (.ps (JN s) 1 (QN s)),m) | _=>none) none))))
def amm (M:Mo) (d:Int) (L:List Li) (most:Int) (k i:Nat) (X:List PV) (e:Int) (n:Nat) (Z:List PV) (J:aah) (Q:aal) (J':aah) (Q':aal) (JN:aaI) (QN:abs) (mn mx:Int) (cap:Bool):FuncId→Nat→Nat→Option (AV→AV):=bJ [(28,11,3,.agg [sI .u32 mn,sI .u32 mx,sB cap]),(28,8,1,sI .i64 ((i+1:Nat):Int))]
def amn (M:Mo) (d e:Int) (lf:Bool) (n:Nat) (X:List PV):FuncId→Nat→Nat→Option (AV→AV):=bJ [(25,5,3,sI .i64 n)]
def air (M:Mo) (d e:Int) (lf:Bool) (n:Nat) (X:List PV) (f:FuncId) (args:List AV) (m:Mem):Option (AV×Mem):=cond (ba f 24) (some (sI .i64 e,m)) (cond (ba f 25) (some (sB lf,m)) (cond (ba f 27||ba f 28||ba f 29||ba f 30) (some (.p (.ps n 1 X),m)) none))
def ais (M:Mo) (d k n:Nat) (lf:Bool) (X Y:List PV) (e:Int) (J:aah) (Q:aal) (f:FuncId) (args:List AV) (m:Mem):Option (AV×Mem):=cond (ba f 25) (some (sB lf,m)) (cond (ba f 13) (some (.aK [.p (.ps n 1 Y),sI .i64 e],m)) (cond (ba f 26) (match args with | [.p (.sc (.int _ n))]=>some (.os (some 0) (J n) 1 (Q n),[.tok]) | _=>none) none))
def amo (M:Mo) (d k n:Nat) (lf:Bool) (X Y:List PV) (e:Int) (J:aah) (Q:aal):FuncId→Nat→Nat→Option (AV→AV):=bJ [(11,8,1,sI .i64 ((d+1:Nat):Int))]
def adE (M:Mo) (d e:Int) (n:Nat) (Z:List PV) (J:aah) (Q:aal) (J':aah) (Q':aal) (JN:aaI) (QN:abs):bA:=aM (G9 M d e n Z J Q J' Q' JN QN) (G9 M d e n Z J Q J' Q' JN QN) [(27,1),(27,4),(27,6)] [(27,0,0),(27,0,3)] [(27,10,5),(27,17,5),(27,4,5)]
def ait:Sc:= .fin
def vT (M:Mo) (d e:Int) (n:Nat) (Z:List PV) (J:aah) (Q:aal) (J':aah) (Q':aal) (JN:aaI) (QN:abs):aA:=
 (.test (d==1)
 (.call ⟨26,[sI .i64 (↑M.tys.length:Int)],[],.os (some 0) (J (↑M.tys.length:Int)) 1 (Q (↑M.tys.length:Int)),[.tok]⟩
 (.must (((0+J (↑M.tys.length:Int))*1).ble aR&&(0+J (↑M.tys.length:Int)).ble aR&&true)
 (.at (ah ae env 27 1 [.mp 0 0,.os (some 1) (0+J (↑M.tys.length:Int)) 1 ([]++Q (↑M.tys.length:Int)),sI .i64 0] ([.pc M.aJ,.tok]) 0 107))))
 (.test (d==2)
 (.call ⟨26,[sI .i64 (↑M.aX.length:Int)],[],.os (some 0) (J (↑M.aX.length:Int)) 1 (Q (↑M.aX.length:Int)),[.tok]⟩
 (.must (((0+J (↑M.aX.length:Int))*1).ble aR&&(0+J (↑M.aX.length:Int)).ble aR&&true)
 (.at (ah ae env 27 4 [.mp 0 0,.os (some 1) (0+J (↑M.aX.length:Int)) 1 ([]++Q (↑M.aX.length:Int)),sI .i64 0] ([.pc M.aJ,.tok]) 0 107))))
 (.call ⟨26,[sI .i64 (↑M.fns.length:Int)],[],.os (some 0) (J (↑M.fns.length:Int)) 1 (Q (↑M.fns.length:Int)),[.tok]⟩
 (.must (((0+J (↑M.fns.length:Int))*1).ble aR&&(0+J (↑M.fns.length:Int)).ble aR&&true)
 (.at (ah ae env 27 6 [.mp 0 0,.os (some 1) (0+J (↑M.fns.length:Int)) 1 ([]++Q (↑M.fns.length:Int)),sI .i64 0] ([.pc M.aJ,.tok]) 0 107))))))
theorem zx (M:Mo) (d e:Int) (n:Nat) (Z:List PV) (J:aah) (Q:aal) (J':aah) (Q':aal) (JN:aaI) (QN:abs):aI ae env (adE M d e n Z J Q J' Q' JN QN) 1000000 27 ([AV.agg (mV M),sI re d]) ([]) ait=vT M d e n Z J Q J' Q' JN QN:=by kernel_rfl
def adF (M:Mo) (d e:Int) (n:Nat) (Z:List PV) (J:aah) (Q:aal) (J':aah) (Q':aal) (JN:aaI) (QN:abs):bA:=aM (G9 M d e n Z J Q J' Q' JN QN) (G9 M d e n Z J Q J' Q' JN QN) [(28,1)] [(28,0,0)] []
def aiu:Sc:= .fin
def Ea (M:Mo) (d e:Int) (n:Nat) (Z:List PV) (J:aah) (Q:aal) (J':aah) (Q':aal) (JN:aaI) (QN:abs):aA:=
 (.test (d==5)
 (.call ⟨26,[sI .i64 (↑M.b9.length:Int)],[],.os (some 0) (J (↑M.b9.length:Int)) 1 (Q (↑M.b9.length:Int)),[.tok]⟩
 (.at (ah ae env 28 1 [sI .i64 d,.p (.ps M.b9.length 3 (ajO aF M.b9)),sI .u32 65536,.os (some 0) (J (↑M.b9.length:Int)) 1 (Q (↑M.b9.length:Int)),sI .i64 0] ([.tok]) 0 44)))
 (.call ⟨26,[sI .i64 (↑M.b8.length:Int)],[],.os (some 0) (J (↑M.b8.length:Int)) 1 (Q (↑M.b8.length:Int)),[.tok]⟩
 (.at (ah ae env 28 1 [sI .i64 d,.p (.ps M.b8.length 3 (ajO aF M.b8)),sI .u32 1048576,.os (some 0) (J (↑M.b8.length:Int)) 1 (Q (↑M.b8.length:Int)),sI .i64 0] ([.tok]) 0 44))))
theorem He (M:Mo) (d e:Int) (n:Nat) (Z:List PV) (J:aah) (Q:aal) (J':aah) (Q':aal) (JN:aaI) (QN:abs):aI ae env (adF M d e n Z J Q J' Q' JN QN) 1000000 28 ([AV.agg (mV M),sI re d]) ([]) aiu=Ea M d e n Z J Q J' Q' JN QN:=by kernel_rfl
def adG (M:Mo) (d e:Int) (n:Nat) (Z:List PV) (J:aah) (Q:aal) (J':aah) (Q':aal) (JN:aaI) (QN:abs):bA:=aM (G9 M d e n Z J Q J' Q' JN QN) (G9 M d e n Z J Q J' Q' JN QN) [(29,1),(29,5)] [(29,0,0),(29,0,4)] [(29,6,5),(29,16,5)]
def aiv:Sc:= .fin
def vU (M:Mo) (d e:Int) (n:Nat) (Z:List PV) (J:aah) (Q:aal) (J':aah) (Q':aal) (JN:aaI) (QN:abs):aA:=
 (.test (d==6)
 (.call ⟨26,[sI .i64 (↑M.gls.length:Int)],[],.os (some 0) (J (↑M.gls.length:Int)) 1 (Q (↑M.gls.length:Int)),[.tok]⟩
 (.must (((0+J (↑M.gls.length:Int))*1).ble aR&&(0+J (↑M.gls.length:Int)).ble aR&&true)
 (.at (ah ae env 29 1 [.mp 0 0,.os (some 1) (0+J (↑M.gls.length:Int)) 1 ([]++Q (↑M.gls.length:Int)),sI .i64 0] ([.pc M.aJ,.tok]) 0 91))))
 (.test (d==7)
 (.call ⟨26,[sI .i64 (↑M.exs.length:Int)],[],.os (some 0) (J (↑M.exs.length:Int)) 1 (Q (↑M.exs.length:Int)),[.tok]⟩
 (.must (((0+J (↑M.exs.length:Int))*1).ble aR&&(0+J (↑M.exs.length:Int)).ble aR&&true)
 (.at (ah ae env 29 5 [.mp 0 0,.os (some 1) (0+J (↑M.exs.length:Int)) 1 ([]++Q (↑M.exs.length:Int)),sI .i64 0] ([.pc M.aJ,.tok]) 0 91))))
 (.call ⟨52,[sI .u32 M.sn],[],.os (some 0) (J' M.sn) 1 (Q' M.sn),[.tok]⟩
 (.out (.ret (.os (some 0) (J' M.sn) 1 (Q' M.sn)) [.tok])))))
theorem zy (M:Mo) (d e:Int) (n:Nat) (Z:List PV) (J:aah) (Q:aal) (J':aah) (Q':aal) (JN:aaI) (QN:abs):aI ae env (adG M d e n Z J Q J' Q' JN QN) 1000000 29 ([AV.agg (mV M),sI re d]) ([]) aiv=vU M d e n Z J Q J' Q' JN QN:=by kernel_rfl
def adH (M:Mo) (d e:Int) (n:Nat) (Z:List PV) (J:aah) (Q:aal) (J':aah) (Q':aal) (JN:aaI) (QN:abs):bA:=aM (G9 M d e n Z J Q J' Q' JN QN) (G9 M d e n Z J Q J' Q' JN QN) [(30,1),(30,6),(30,8)] [(30,0,0),(30,0,5)] [(30,13,5),(30,25,5),(30,4,5)]
def aiw:Sc:= .fin
def vV (M:Mo) (d e:Int) (n:Nat) (Z:List PV) (J:aah) (Q:aal) (J':aah) (Q':aal) (JN:aaI) (QN:abs):aA:=
 (.test (d==9)
 (.call ⟨26,[sI .i64 (↑M.els.length:Int)],[],.os (some 0) (J (↑M.els.length:Int)) 1 (Q (↑M.els.length:Int)),[.tok]⟩
 (.must (((0+J (↑M.els.length:Int))*1).ble aR&&(0+J (↑M.els.length:Int)).ble aR&&true)
 (.at (ah ae env 30 1 [.mp 0 0,.os (some 1) (0+J (↑M.els.length:Int)) 1 ([]++Q (↑M.els.length:Int)),sI .i64 0] ([.pc M.aJ,.tok]) 0 150))))
 (.test (d==10)
 (.call ⟨26,[sI .i64 (↑M.fns.length:Int)],[],.os (some 0) (J (↑M.fns.length:Int)) 1 (Q (↑M.fns.length:Int)),[.tok]⟩
 (.must (((0+J (↑M.fns.length:Int))*1).ble aR&&(0+J (↑M.fns.length:Int)).ble aR&&true)
 (.at (ah ae env 30 6 [.mp 0 0,.os (some 1) (0+J (↑M.fns.length:Int)) 1 ([]++Q (↑M.fns.length:Int)),sI .i64 0] ([.pc M.aJ,.tok]) 0 150))))
 (.call ⟨26,[sI .i64 (↑M.bp.length:Int)],[],.os (some 0) (J (↑M.bp.length:Int)) 1 (Q (↑M.bp.length:Int)),[.tok]⟩
 (.must (((0+J (↑M.bp.length:Int))*1).ble aR&&(0+J (↑M.bp.length:Int)).ble aR&&true)
 (.at (ah ae env 30 8 [.mp 0 0,.os (some 1) (0+J (↑M.bp.length:Int)) 1 ([]++Q (↑M.bp.length:Int)),sI .i64 0] ([.pc M.aJ,.tok]) 0 150))))))
theorem zz (M:Mo) (d e:Int) (n:Nat) (Z:List PV) (J:aah) (Q:aal) (J':aah) (Q':aal) (JN:aaI) (QN:abs):aI ae env (adH M d e n Z J Q J' Q' JN QN) 1000000 30 ([AV.agg (mV M),sI re d]) ([]) aiw=vV M d e n Z J Q J' Q' JN QN:=by kernel_rfl
def adI (M:Mo) (k:Nat) (i:Nat) (X:List PV) (e:Int) (n:Nat) (Z:List PV) (J:aah) (Q:aal) (J':aah) (Q':aal) (JN:aaI) (QN:abs) (p r:Int):bA:=dY (aih M k i X e n Z J Q J' Q' JN QN p r) (aih M k i X e n Z J Q J' Q' JN QN p r) [(27,1)] [(27,0,2)] [(27,14,3),(27,14,4),(27,15,2)] (amd M k i X e n Z J Q J' Q' JN QN p r)
def aix:Sc:= .fin
def Eb (M:Mo) (k:Nat) (i:Nat) (X:List PV) (e:Int) (n:Nat) (Z:List PV) (J:aah) (Q:aal) (J':aah) (Q':aal) (JN:aaI) (QN:abs) (p r:Int):aA:=
 (.test (decide ((↑i:Int)<(↑M.tys.length:Int)))
 (.must (aP (↑i:Int) M.tys.length&&true&&true)
 (.must (isInt re (aq (ajO bK M.tys) (aB i*2))&&(isInt re (aq (ajO bK M.tys) (aB i*2+1))&&true)&&true)
 (.need (AV.agg [sI .i64 (au (aq (ajO bK M.tys) (aB i*2))),sI .i64 (au (aq (ajO bK M.tys) (aB i*2+1)))]=AV.agg [sI re p,sI re r])
 (.call ⟨53,[.agg [sI .i64 p,sI .i64 r]],[],.aK [.p (.ps n 1 Z),sI .i64 e],[]⟩
 (.must (((k+n)*1).ble aR&&(k+n).ble aR&&true)
 (.need (sI .i64 (re.wrap ((↑i:Int)+1))=sI re (↑(i+1):Int))
 (.at (ah ae env 27 1 [.mp 0 0,.os (some 1) (k+n) 1 (X++Z),sI .i64 (↑(i+1):Int)] ([.pc M.aJ,.tok]) 0 107))))))))
 (.out (.ret (.os (some 0) k 1 X) [.tok])))
theorem Hf (M:Mo) (k:Nat) (i:Nat) (X:List PV) (e:Int) (n:Nat) (Z:List PV) (J:aah) (Q:aal) (J':aah) (Q':aal) (JN:aaI) (QN:abs) (p r:Int):grow ae env (adI M k i X e n Z J Q J' Q' JN QN p r) 1000000 true (ah ae env 27 1 ([AV.mp 0 0,AV.os (ae2 1) k 1 X,sI re (↑i:Int)]) ([bq.pc M.aJ,bq.tok]) 0 107) aix atEnd=Eb M k i X e n Z J Q J' Q' JN QN p r:=by kernel_rfl
def adJ (M:Mo) (k:Nat) (i:Nat) (X:List PV) (e:Int) (n:Nat) (Z:List PV) (J:aah) (Q:aal) (J':aah) (Q':aal) (JN:aaI) (QN:abs) (mo:ByteArray) (nm:ByteArray) (ty:Int):bA:=dY (aii M k i X e n Z J Q J' Q' JN QN mo nm ty) (aii M k i X e n Z J Q J' Q' JN QN mo nm ty) [(27,4)] [(27,0,5)] [(27,21,4),(27,21,6),(27,21,8),(27,22,4),(27,22,6),(27,22,8),(27,23,2),(27,24,4),(27,24,6),(27,24,8)] (ame M k i X e n Z J Q J' Q' JN QN mo nm ty)
def aiy:Sc:= .fin
def Ec (M:Mo) (k:Nat) (i:Nat) (X:List PV) (e:Int) (n:Nat) (Z:List PV) (J:aah) (Q:aal) (J':aah) (Q':aal) (JN:aaI) (QN:abs) (mo:ByteArray) (nm:ByteArray) (ty:Int):aA:=
 (.test (decide ((↑i:Int)<(↑M.aX.length:Int)))
 (.must (aP (↑i:Int) M.aX.length&&true&&true)
 (.must (isStr (aq (ajO bh M.aX) (aB i*3+0))&&true)
 (.need (AV.p (PV.sc (ajZ (bg (aq (ajO bh M.aX) (aB i*3+0)))))=AV.p (PV.sc (ajZ mo)))
 (.call ⟨54,[.p (.sc (.string mo))],[],.p (.ps (JN mo) 1 (QN mo)),[]⟩
 (.must (((k+JN mo)*1).ble aR&&(k+JN mo).ble aR&&true)
 (.must (aP (↑i:Int) M.aX.length&&true&&true)
 (.must (isStr (aq (ajO bh M.aX) (aB i*3+1))&&true)
 (.need (AV.p (PV.sc (ajZ (bg (aq (ajO bh M.aX) (aB i*3+1)))))=AV.p (PV.sc (ajZ nm)))
 (.call ⟨54,[.p (.sc (.string nm))],[],.p (.ps (JN nm) 1 (QN nm)),[]⟩
 (.must (((k+JN mo+JN nm)*1).ble aR&&(k+JN mo+JN nm).ble aR&&true)
 (.must (((k+JN mo+JN nm+1)*1).ble aR&&(k+JN mo+JN nm+1).ble aR&&true)
 (.must (aP (↑i:Int) M.aX.length&&true&&true)
 (.must (isInt re (aq (ajO bh M.aX) (aB i*3+2))&&true)
 (.need (sI .i64 (au (aq (ajO bh M.aX) (aB i*3+2)))=sI re ty)
 (.call ⟨26,[sI .i64 ty],[],.os (some 0) (J ty) 1 (Q ty),[.tok]⟩
 (.must (((k+JN mo+JN nm+1+J ty)*1).ble aR&&(k+JN mo+JN nm+1+J ty).ble aR&&true)
 (.need (sI .i64 (re.wrap ((↑i:Int)+1))=sI re (↑(i+1):Int))
 (.at (ah ae env 27 4 [.mp 0 0,.os (some 1) (k+JN mo+JN nm+1+J ty) 1 (X++QN mo++QN nm++[.sc (.int .u8 0)]++Q ty),sI .i64 (↑(i+1):Int)] ([.pc M.aJ,.tok]) 0 107)))))))))))))))))))
 (.out (.ret (.os (some 0) k 1 X) [.tok])))
theorem Hg (M:Mo) (k:Nat) (i:Nat) (X:List PV) (e:Int) (n:Nat) (Z:List PV) (J:aah) (Q:aal) (J':aah) (Q':aal) (JN:aaI) (QN:abs) (mo:ByteArray) (nm:ByteArray) (ty:Int):grow ae env (adJ M k i X e n Z J Q J' Q' JN QN mo nm ty) 1000000 true (ah ae env 27 4 ([AV.mp 0 0,AV.os (ae2 1) k 1 X,sI re (↑i:Int)]) ([bq.pc M.aJ,bq.tok]) 0 107) aiy atEnd=Ec M k i X e n Z J Q J' Q' JN QN mo nm ty:=by kernel_rfl
def adK (M:Mo) (k:Nat) (i:Nat) (X:List PV) (e:Int) (n:Nat) (Z:List PV) (J:aah) (Q:aal) (J':aah) (Q':aal) (JN:aaI) (QN:abs) (ty:Int):bA:=dY (aij M k i X e n Z J Q J' Q' JN QN ty) (aij M k i X e n Z J Q J' Q' JN QN ty) [(27,6)] [(27,0,7)] [(27,8,4),(27,8,6),(27,8,8)] (amf M k i X e n Z J Q J' Q' JN QN ty)
def aiz:Sc:= .fin
def Ed (M:Mo) (k:Nat) (i:Nat) (X:List PV) (e:Int) (n:Nat) (Z:List PV) (J:aah) (Q:aal) (J':aah) (Q':aal) (JN:aaI) (QN:abs) (ty:Int):aA:=
 (.test (decide ((↑i:Int)<(↑M.fns.length:Int)))
 (.must (aP (↑i:Int) M.fns.length&&true&&true)
 (.must (isInt re (aq (ajO aG M.fns) (aB i*3+0))&&true)
 (.need (sI .i64 (au (aq (ajO aG M.fns) (aB i*3+0)))=sI re ty)
 (.call ⟨26,[sI .i64 ty],[],.os (some 0) (J ty) 1 (Q ty),[.tok]⟩
 (.must (((k+J ty)*1).ble aR&&(k+J ty).ble aR&&true)
 (.need (sI .i64 (re.wrap ((↑i:Int)+1))=sI re (↑(i+1):Int))
 (.at (ah ae env 27 6 [.mp 0 0,.os (some 1) (k+J ty) 1 (X++Q ty),sI .i64 (↑(i+1):Int)] ([.pc M.aJ,.tok]) 0 107))))))))
 (.out (.ret (.os (some 0) k 1 X) [.tok])))
theorem Hh (M:Mo) (k:Nat) (i:Nat) (X:List PV) (e:Int) (n:Nat) (Z:List PV) (J:aah) (Q:aal) (J':aah) (Q':aal) (JN:aaI) (QN:abs) (ty:Int):grow ae env (adK M k i X e n Z J Q J' Q' JN QN ty) 1000000 true (ah ae env 27 6 ([AV.mp 0 0,AV.os (ae2 1) k 1 X,sI re (↑i:Int)]) ([bq.pc M.aJ,bq.tok]) 0 107) aiz atEnd=Ed M k i X e n Z J Q J' Q' JN QN ty:=by kernel_rfl
def adL (M:Mo) (k:Nat) (i:Nat) (X:List PV) (e:Int) (n:Nat) (Z:List PV) (J:aah) (Q:aal) (J':aah) (Q':aal) (JN:aaI) (QN:abs) (mu:Bool) (l:List Ins):bA:=dY (aik M k i X e n Z J Q J' Q' JN QN mu l) (aik M k i X e n Z J Q J' Q' JN QN mu l) [(29,1)] [(29,0,2),(29,0,3)] [(29,11,3),(29,11,5),(29,13,3),(29,14,4),(29,14,6),(29,14,8)] (amg M k i X e n Z J Q J' Q' JN QN mu l)
def aiA:Sc:= .fin
def Ee (M:Mo) (k:Nat) (i:Nat) (X:List PV) (e:Int) (n:Nat) (Z:List PV) (J:aah) (Q:aal) (J':aah) (Q':aal) (JN:aaI) (QN:abs) (mu:Bool) (l:List Ins):aA:=
 (.test (decide ((↑i:Int)<(↑M.gls.length:Int)))
 (.must (aP (↑i:Int) M.gls.length&&true&&true)
 (.must (isBool (aq (ajO bn M.gls) (aB i*2+0))&&true)
 (.need (AV.p (PV.sc (amp (bf (aq (ajO bn M.gls) (aB i*2+0)))))=sB mu)
 (.test (mu)
 (.must (((k+2)*1).ble aR&&(k+2).ble aR&&true)
 (.must (aP (↑i:Int) M.gls.length&&true&&true)
 (.must (aO (aq (ajO bn M.gls) (aB i*2+1))&&true)
 (.need (AV.p (PV.ps (an (aq (ajO bn M.gls) (aB i*2+1))) (aD (aq (ajO bn M.gls) (aB i*2+1))) (ak (aq (ajO bn M.gls) (aB i*2+1))))=aL l)
 (.call ⟨56,[.p (.ps l.length 8 (aj l))],[],.p (.ps n 1 Z),[]⟩
 (.must (((k+2+n)*1).ble aR&&(k+2+n).ble aR&&true)
 (.need (sI .i64 (re.wrap ((↑i:Int)+1))=sI re (↑(i+1):Int))
 (.at (ah ae env 29 1 [.mp 0 0,.os (some 1) (k+2+n) 1 (X++[.sc (.int .u8 127),.sc (.int .u8 1)]++Z),sI .i64 (↑(i+1):Int)] ([.pc M.aJ,.tok]) 0 91)))))))))
 (.must (((k+2)*1).ble aR&&(k+2).ble aR&&true)
 (.must (aP (↑i:Int) M.gls.length&&true&&true)
 (.must (aO (aq (ajO bn M.gls) (aB i*2+1))&&true)
 (.need (AV.p (PV.ps (an (aq (ajO bn M.gls) (aB i*2+1))) (aD (aq (ajO bn M.gls) (aB i*2+1))) (ak (aq (ajO bn M.gls) (aB i*2+1))))=aL l)
 (.call ⟨56,[.p (.ps l.length 8 (aj l))],[],.p (.ps n 1 Z),[]⟩
 (.must (((k+2+n)*1).ble aR&&(k+2+n).ble aR&&true)
 (.need (sI .i64 (re.wrap ((↑i:Int)+1))=sI re (↑(i+1):Int))
 (.at (ah ae env 29 1 [.mp 0 0,.os (some 1) (k+2+n) 1 (X++[.sc (.int .u8 127),.sc (.int .u8 0)]++Z),sI .i64 (↑(i+1):Int)] ([.pc M.aJ,.tok]) 0 91)))))))))))))
 (.out (.ret (.os (some 0) k 1 X) [.tok])))
theorem Hi (M:Mo) (k:Nat) (i:Nat) (X:List PV) (e:Int) (n:Nat) (Z:List PV) (J:aah) (Q:aal) (J':aah) (Q':aal) (JN:aaI) (QN:abs) (mu:Bool) (l:List Ins):grow ae env (adL M k i X e n Z J Q J' Q' JN QN mu l) 1000000 true (ah ae env 29 1 ([AV.mp 0 0,AV.os (ae2 1) k 1 X,sI re (↑i:Int)]) ([bq.pc M.aJ,bq.tok]) 0 91) aiA atEnd=Ee M k i X e n Z J Q J' Q' JN QN mu l:=by kernel_rfl
def adM (M:Mo) (k:Nat) (i:Nat) (X:List PV) (e:Int) (n:Nat) (Z:List PV) (J:aah) (Q:aal) (J':aah) (Q':aal) (JN:aaI) (QN:abs) (nm:ByteArray) (kd ix:Int):bA:=dY (ail M k i X e n Z J Q J' Q' JN QN nm kd ix) (ail M k i X e n Z J Q J' Q' JN QN nm kd ix) [(29,5)] [(29,0,6)] [(29,20,4),(29,20,6),(29,20,8),(29,21,4),(29,21,6),(29,21,9),(29,22,4),(29,22,6),(29,22,8)] (amh M k i X e n Z J Q J' Q' JN QN nm kd ix)
def aiB:Sc:= .fin
def Ef (M:Mo) (k:Nat) (i:Nat) (X:List PV) (e:Int) (n:Nat) (Z:List PV) (J:aah) (Q:aal) (J':aah) (Q':aal) (JN:aaI) (QN:abs) (nm:ByteArray) (kd ix:Int):aA:=
 (.test (decide ((↑i:Int)<(↑M.exs.length:Int)))
 (.must (aP (↑i:Int) M.exs.length&&true&&true)
 (.must (isStr (aq (ajO bu M.exs) (aB i*3+0))&&true)
 (.need (AV.p (PV.sc (ajZ (bg (aq (ajO bu M.exs) (aB i*3+0)))))=AV.p (PV.sc (ajZ nm)))
 (.call ⟨54,[.p (.sc (.string nm))],[],.p (.ps (JN nm) 1 (QN nm)),[]⟩
 (.must (((k+JN nm)*1).ble aR&&(k+JN nm).ble aR&&true)
 (.must (aP (↑i:Int) M.exs.length&&true&&true)
 (.must (isInt re (aq (ajO bu M.exs) (aB i*3+1))&&true)
 (.need (sI .i64 (au (aq (ajO bu M.exs) (aB i*3+1)))=sI re kd)
 (.must (((k+JN nm+1)*1).ble aR&&(k+JN nm+1).ble aR&&true)
 (.must (aP (↑i:Int) M.exs.length&&true&&true)
 (.must (isInt aeG (aq (ajO bu M.exs) (aB i*3+2))&&true)
 (.need (sI .u32 (au (aq (ajO bu M.exs) (aB i*3+2)))=sI aeG ix)
 (.call ⟨52,[sI .u32 ix],[],.os (some 0) (J' ix) 1 (Q' ix),[.tok]⟩
 (.must (((k+JN nm+1+J' ix)*1).ble aR&&(k+JN nm+1+J' ix).ble aR&&true)
 (.need (sI .i64 (re.wrap ((↑i:Int)+1))=sI re (↑(i+1):Int))
 (.at (ah ae env 29 5 [.mp 0 0,.os (some 1) (k+JN nm+1+J' ix) 1 (X++QN nm++[.sc (.int .u8 (ajw.wrap kd))]++Q' ix),sI .i64 (↑(i+1):Int)] ([.pc M.aJ,.tok]) 0 91)))))))))))))))))
 (.out (.ret (.os (some 0) k 1 X) [.tok])))
theorem Hj (M:Mo) (k:Nat) (i:Nat) (X:List PV) (e:Int) (n:Nat) (Z:List PV) (J:aah) (Q:aal) (J':aah) (Q':aal) (JN:aaI) (QN:abs) (nm:ByteArray) (kd ix:Int):grow ae env (adM M k i X e n Z J Q J' Q' JN QN nm kd ix) 1000000 true (ah ae env 29 5 ([AV.mp 0 0,AV.os (ae2 1) k 1 X,sI re (↑i:Int)]) ([bq.pc M.aJ,bq.tok]) 0 91) aiB atEnd=Ef M k i X e n Z J Q J' Q' JN QN nm kd ix:=by kernel_rfl
def adN (M:Mo) (k:Nat) (i:Nat) (X:List PV) (e:Int) (n:Nat) (Z:List PV) (J:aah) (Q:aal) (J':aah) (Q':aal) (JN:aaI) (QN:abs) (l:List Ins) (fs:List Int):bA:=dY (aim M k i X e n Z J Q J' Q' JN QN l fs) (aim M k i X e n Z J Q J' Q' JN QN l fs) [(30,1),(30,3)] [(30,0,2)] [(30,17,2),(30,18,4),(30,18,6),(30,18,8),(30,19,4),(30,19,6),(30,19,9)] (ami M k i X e n Z J Q J' Q' JN QN l fs)
def aiC:Sc:= .fin
def Eg (M:Mo) (k:Nat) (i:Nat) (X:List PV) (e:Int) (n:Nat) (Z:List PV) (J:aah) (Q:aal) (J':aah) (Q':aal) (JN:aaI) (QN:abs) (l:List Ins) (fs:List Int):aA:=
 (.test (decide ((↑i:Int)<(↑M.els.length:Int)))
 (.must (((k+1)*1).ble aR&&(k+1).ble aR&&true)
 (.must (aP (↑i:Int) M.els.length&&true&&true)
 (.must (aO (aq (ajO aN M.els) (aB i*2+0))&&true)
 (.need (AV.p (PV.ps (an (aq (ajO aN M.els) (aB i*2+0))) (aD (aq (ajO aN M.els) (aB i*2+0))) (ak (aq (ajO aN M.els) (aB i*2+0))))=aL l)
 (.call ⟨56,[.p (.ps l.length 8 (aj l))],[],.p (.ps n 1 Z),[]⟩
 (.must (((k+1+n)*1).ble aR&&(k+1+n).ble aR&&true)
 (.must (aP (↑i:Int) M.els.length&&true&&true)
 (.must (aO (aq (ajO aN M.els) (aB i*2+1))&&true)
 (.need (AV.p (PV.ps (an (aq (ajO aN M.els) (aB i*2+1))) (aD (aq (ajO aN M.els) (aB i*2+1))) (ak (aq (ajO aN M.els) (aB i*2+1))))=AV.p (PV.ps fs.length 1 (bN aeG fs)))
 (.call ⟨26,[sI .i64 (↑fs.length:Int)],[],.os (some 0) (J (↑fs.length:Int)) 1 (Q (↑fs.length:Int)),[.tok]⟩
 (.must (((k+1+n+J (↑fs.length:Int))*1).ble aR&&(k+1+n+J (↑fs.length:Int)).ble aR&&true)
 (.at (ah ae env 30 3 [.mp 0 0,.os (some 1) (k+1+n+J (↑fs.length:Int)) 1 (X++[.sc (.int .u8 0)]++Z++Q (↑fs.length:Int)),sI .i64 (↑i:Int),sI .i64 0] ([.pc M.aJ,.tok]) 0 150)))))))))))))
 (.out (.ret (.os (some 0) k 1 X) [.tok])))
theorem Hl (M:Mo) (k:Nat) (i:Nat) (X:List PV) (e:Int) (n:Nat) (Z:List PV) (J:aah) (Q:aal) (J':aah) (Q':aal) (JN:aaI) (QN:abs) (l:List Ins) (fs:List Int):grow ae env (adN M k i X e n Z J Q J' Q' JN QN l fs) 1000000 true (ah ae env 30 1 ([AV.mp 0 0,AV.os (ae2 1) k 1 X,sI re (↑i:Int)]) ([bq.pc M.aJ,bq.tok]) 0 150) aiC atEnd=Eg M k i X e n Z J Q J' Q' JN QN l fs:=by kernel_rfl
def adO (M:Mo) (k:Nat) (i:Nat) (X:List PV) (e:Int) (n:Nat) (Z:List PV) (J:aah) (Q:aal) (J':aah) (Q':aal) (JN:aaI) (QN:abs) (lo:Int) (l:List Ins):bA:=dY (ain M k i X e n Z J Q J' Q' JN QN lo l) (ain M k i X e n Z J Q J' Q' JN QN lo l) [(30,6)] [(30,0,7)] [(30,29,3),(30,29,5),(30,30,4),(30,31,2)] (amj M k i X e n Z J Q J' Q' JN QN lo l)
def aiD:Sc:= .fin
def Eh (M:Mo) (k:Nat) (i:Nat) (X:List PV) (e:Int) (n:Nat) (Z:List PV) (J:aah) (Q:aal) (J':aah) (Q':aal) (JN:aaI) (QN:abs) (lo:Int) (l:List Ins):aA:=
 (.test (decide ((↑i:Int)<(↑M.fns.length:Int)))
 (.must (aP (↑i:Int) M.fns.length&&true&&true)
 (.must (isInt re (aq (ajO aG M.fns) (aB i*3+1))&&(aO (aq (ajO aG M.fns) (aB i*3+1+1))&&true)&&true)
 (.need (AV.agg [sI .i64 (au (aq (ajO aG M.fns) (aB i*3+1))),AV.p (PV.ps (an (aq (ajO aG M.fns) (aB i*3+1+1))) (aD (aq (ajO aG M.fns) (aB i*3+1+1))) (ak (aq (ajO aG M.fns) (aB i*3+1+1))))]=AV.agg [sI re lo,aL l])
 (.call ⟨57,[.agg [sI .i64 lo,.p (.ps l.length 8 (aj l))]],[],.aK [.p (.ps n 1 Z),sI .i64 e],[]⟩
 (.call ⟨26,[sI .i64 (↑n:Int)],[],.os (some 0) (J (↑n:Int)) 1 (Q (↑n:Int)),[.tok]⟩
 (.must (((k+J (↑n:Int))*1).ble aR&&(k+J (↑n:Int)).ble aR&&true)
 (.must (((k+J (↑n:Int)+n)*1).ble aR&&(k+J (↑n:Int)+n).ble aR&&true)
 (.need (sI .i64 (re.wrap ((↑i:Int)+1))=sI re (↑(i+1):Int))
 (.at (ah ae env 30 6 [.mp 0 0,.os (some 1) (k+J (↑n:Int)+n) 1 (X++Q (↑n:Int)++Z),sI .i64 (↑(i+1):Int)] ([.pc M.aJ,.tok]) 0 150))))))))))
 (.out (.ret (.os (some 0) k 1 X) [.tok])))
theorem Ho (M:Mo) (k:Nat) (i:Nat) (X:List PV) (e:Int) (n:Nat) (Z:List PV) (J:aah) (Q:aal) (J':aah) (Q':aal) (JN:aaI) (QN:abs) (lo:Int) (l:List Ins):grow ae env (adO M k i X e n Z J Q J' Q' JN QN lo l) 1000000 true (ah ae env 30 6 ([AV.mp 0 0,AV.os (ae2 1) k 1 X,sI re (↑i:Int)]) ([bq.pc M.aJ,bq.tok]) 0 150) aiD atEnd=Eh M k i X e n Z J Q J' Q' JN QN lo l:=by kernel_rfl
def adP (M:Mo) (k:Nat) (i:Nat) (X:List PV) (e:Int) (n:Nat) (Z:List PV) (J:aah) (Q:aal) (J':aah) (Q':aal) (JN:aaI) (QN:abs) (l:List Ins) (bs:List Int):bA:=dY (aio M k i X e n Z J Q J' Q' JN QN l bs) (aio M k i X e n Z J Q J' Q' JN QN l bs) [(30,8)] [(30,0,9)] [(30,8,2),(30,9,4),(30,9,6),(30,9,8),(30,10,4),(30,10,6),(30,10,9),(30,11,4),(30,11,6),(30,11,7)] (amk M k i X e n Z J Q J' Q' JN QN l bs)
def aiE:Sc:= .fin
def Ei (M:Mo) (k:Nat) (i:Nat) (X:List PV) (e:Int) (n:Nat) (Z:List PV) (J:aah) (Q:aal) (J':aah) (Q':aal) (JN:aaI) (QN:abs) (l:List Ins) (bs:List Int):aA:=
 (.test (decide ((↑i:Int)<(↑M.bp.length:Int)))
 (.must (((k+1)*1).ble aR&&(k+1).ble aR&&true)
 (.must (aP (↑i:Int) M.bp.length&&true&&true)
 (.must (aO (aq (ajO aZ M.bp) (aB i*2+0))&&true)
 (.need (AV.p (PV.ps (an (aq (ajO aZ M.bp) (aB i*2+0))) (aD (aq (ajO aZ M.bp) (aB i*2+0))) (ak (aq (ajO aZ M.bp) (aB i*2+0))))=aL l)
 (.call ⟨56,[.p (.ps l.length 8 (aj l))],[],.p (.ps n 1 Z),[]⟩
 (.must (((k+1+n)*1).ble aR&&(k+1+n).ble aR&&true)
 (.must (aP (↑i:Int) M.bp.length&&true&&true)
 (.must (aO (aq (ajO aZ M.bp) (aB i*2+1))&&true)
 (.need (AV.p (PV.ps (an (aq (ajO aZ M.bp) (aB i*2+1))) (aD (aq (ajO aZ M.bp) (aB i*2+1))) (ak (aq (ajO aZ M.bp) (aB i*2+1))))=AV.p (PV.ps bs.length 1 (bN ajw bs)))
 (.call ⟨26,[sI .i64 (↑bs.length:Int)],[],.os (some 0) (J (↑bs.length:Int)) 1 (Q (↑bs.length:Int)),[.tok]⟩
 (.must (((k+1+n+J (↑bs.length:Int))*1).ble aR&&(k+1+n+J (↑bs.length:Int)).ble aR&&true)
 (.must (aP (↑i:Int) M.bp.length&&true&&true)
 (.must (aO (aq (ajO aZ M.bp) (aB i*2+1))&&true)
 (.need (AV.p (PV.ps (an (aq (ajO aZ M.bp) (aB i*2+1))) (aD (aq (ajO aZ M.bp) (aB i*2+1))) (ak (aq (ajO aZ M.bp) (aB i*2+1))))=AV.p (PV.ps bs.length 1 (bN ajw bs)))
 (.must (((k+1+n+J (↑bs.length:Int)+bs.length)*1).ble aR&&(k+1+n+J (↑bs.length:Int)+bs.length).ble aR&&true)
 (.need (sI .i64 (re.wrap ((↑i:Int)+1))=sI re (↑(i+1):Int))
 (.at (ah ae env 30 8 [.mp 0 0,.os (some 1) (k+1+n+J (↑bs.length:Int)+bs.length) 1 (X++[.sc (.int .u8 0)]++Z++Q (↑bs.length:Int)++bN ajw bs),sI .i64 (↑(i+1):Int)] ([.pc M.aJ,.tok]) 0 150))))))))))))))))))
 (.out (.ret (.os (some 0) k 1 X) [.tok])))
theorem Hp (M:Mo) (k:Nat) (i:Nat) (X:List PV) (e:Int) (n:Nat) (Z:List PV) (J:aah) (Q:aal) (J':aah) (Q':aal) (JN:aaI) (QN:abs) (l:List Ins) (bs:List Int):grow ae env (adP M k i X e n Z J Q J' Q' JN QN l bs) 1000000 true (ah ae env 30 8 ([AV.mp 0 0,AV.os (ae2 1) k 1 X,sI re (↑i:Int)]) ([bq.pc M.aJ,bq.tok]) 0 150) aiE atEnd=Ei M k i X e n Z J Q J' Q' JN QN l bs:=by kernel_rfl
def adQ (M:Mo) (k:Nat) (i:Nat) (j:Nat) (X:List PV) (e:Int) (n:Nat) (Z:List PV) (J:aah) (Q:aal) (J':aah) (Q':aal) (JN:aaI) (QN:abs) (fs:List Int) (t:Int):bA:=dY (aip M k i j X e n Z J Q J' Q' JN QN fs t) (aip M k i j X e n Z J Q J' Q' JN QN fs t) [(30,3),(30,1)] [(30,0,4)] [(30,21,4),(30,21,6),(30,23,4),(30,23,6),(30,23,8),(30,23,9),(30,23,11)] (aml M k i j X e n Z J Q J' Q' JN QN fs t)
def aiF:Sc:= .fin
def Ej (M:Mo) (k:Nat) (i:Nat) (j:Nat) (X:List PV) (e:Int) (n:Nat) (Z:List PV) (J:aah) (Q:aal) (J':aah) (Q':aal) (JN:aaI) (QN:abs) (fs:List Int) (t:Int):aA:=
 (.must (aP (↑i:Int) M.els.length&&true&&true)
 (.must (aO (aq (ajO aN M.els) (aB i*2+1))&&true)
 (.need (AV.p (PV.ps (an (aq (ajO aN M.els) (aB i*2+1))) (aD (aq (ajO aN M.els) (aB i*2+1))) (ak (aq (ajO aN M.els) (aB i*2+1))))=AV.p (PV.ps fs.length 1 (bN aeG fs)))
 (.test (decide ((↑j:Int)<(↑fs.length:Int)))
 (.must (aP (↑i:Int) M.els.length&&true&&true)
 (.must (aO (aq (ajO aN M.els) (aB i*2+1))&&true)
 (.need (AV.p (PV.ps (an (aq (ajO aN M.els) (aB i*2+1))) (aD (aq (ajO aN M.els) (aB i*2+1))) (ak (aq (ajO aN M.els) (aB i*2+1))))=AV.p (PV.ps fs.length 1 (bN aeG fs)))
 (.must (aP (↑j:Int) fs.length&&true&&true)
 (.must (isInt aeG (aq (bN aeG fs) (aB j*1))&&true)
 (.need (sI .u32 (au (aq (bN aeG fs) (aB j*1)))=sI aeG t)
 (.call ⟨52,[sI .u32 t],[],.os (some 0) (J' t) 1 (Q' t),[.tok]⟩
 (.must (((k+J' t)*1).ble aR&&(k+J' t).ble aR&&true)
 (.need (sI .i64 (re.wrap ((↑j:Int)+1))=sI re (↑(j+1):Int))
 (.at (ah ae env 30 3 [.mp 0 0,.os (some 1) (k+J' t) 1 (X++Q' t),sI .i64 (↑i:Int),sI .i64 (↑(j+1):Int)] ([.pc M.aJ,.tok]) 0 150)))))))))))
 (.need (sI .i64 (re.wrap ((↑i:Int)+1))=sI re (↑(i+1):Int))
 (.at (ah ae env 30 1 [.mp 0 0,.os (some 1) k 1 X,sI .i64 (↑(i+1):Int)] ([.pc M.aJ,.tok]) 0 150)))))))
theorem Hq (M:Mo) (k:Nat) (i:Nat) (j:Nat) (X:List PV) (e:Int) (n:Nat) (Z:List PV) (J:aah) (Q:aal) (J':aah) (Q':aal) (JN:aaI) (QN:abs) (fs:List Int) (t:Int):grow ae env (adQ M k i j X e n Z J Q J' Q' JN QN fs t) 1000000 true (ah ae env 30 3 ([AV.mp 0 0,AV.os (ae2 1) k 1 X,sI re (↑i:Int),sI re (↑j:Int)]) ([bq.pc M.aJ,bq.tok]) 0 150) aiF atEnd=Ej M k i j X e n Z J Q J' Q' JN QN fs t:=by kernel_rfl
def adR (M:Mo) (d:Int) (L:List Li) (most:Int) (k:Nat) (i:Nat) (X:List PV) (e:Int) (n:Nat) (Z:List PV) (J:aah) (Q:aal) (J':aah) (Q':aal) (JN:aaI) (QN:abs) (mn mx:Int) (cap:Bool):bA:=dY (aiq M d L most k i X e n Z J Q J' Q' JN QN mn mx cap) (aiq M d L most k i X e n Z J Q J' Q' JN QN mn mx cap) [(28,1)] [(28,0,2),(28,0,3)] [(28,10,2),(28,11,2),(28,11,3),(28,12,2)] (amm M d L most k i X e n Z J Q J' Q' JN QN mn mx cap)
def aiG:Sc:= .fin
def vW (M:Mo) (d:Int) (L:List Li) (most:Int) (k:Nat) (i:Nat) (X:List PV) (e:Int) (n:Nat) (Z:List PV) (J:aah) (Q:aal) (J':aah) (Q':aal) (JN:aaI) (QN:abs) (mn mx:Int) (cap:Bool):aA:=
 (.test (decide ((↑i:Int)<(↑L.length:Int)))
 (.test (d==4)
 (.must (((k+1)*1).ble aR&&(k+1).ble aR&&true)
 (.must (aP (↑i:Int) L.length&&true&&true)
 (.must (isInt aeG (aq (ajO aF L) (aB i*3))&&(isInt aeG (aq (ajO aF L) (aB i*3+1))&&(isBool (aq (ajO aF L) (aB i*3+1+1))&&true))&&true)
 (.need (AV.agg [sI .u32 (au (aq (ajO aF L) (aB i*3))),sI .u32 (au (aq (ajO aF L) (aB i*3+1))),AV.p (PV.sc (amp (bf (aq (ajO aF L) (aB i*3+1+1)))))]=AV.agg [sI aeG mn,sI aeG mx,sB cap])
 (.call ⟨55,[.agg [sI .u32 mn,sI .u32 mx,.p (.sc (.bool cap))],sI .u32 most],[],.aK [.p (.ps n 1 Z),sI .i64 e],[]⟩
 (.must (((k+1+n)*1).ble aR&&(k+1+n).ble aR&&true)
 (.need (sI .i64 (re.wrap ((↑i:Int)+1))=sI re (↑(i+1):Int))
 (.at (ah ae env 28 1 [sI .i64 d,.p (.ps L.length 3 (ajO aF L)),sI .u32 most,.os (some 0) (k+1+n) 1 (X++[.sc (.int .u8 112)]++Z),sI .i64 (↑(i+1):Int)] ([.tok]) 0 44)))))))))
 (.must (aP (↑i:Int) L.length&&true&&true)
 (.must (isInt aeG (aq (ajO aF L) (aB i*3))&&(isInt aeG (aq (ajO aF L) (aB i*3+1))&&(isBool (aq (ajO aF L) (aB i*3+1+1))&&true))&&true)
 (.need (AV.agg [sI .u32 (au (aq (ajO aF L) (aB i*3))),sI .u32 (au (aq (ajO aF L) (aB i*3+1))),AV.p (PV.sc (amp (bf (aq (ajO aF L) (aB i*3+1+1)))))]=AV.agg [sI aeG mn,sI aeG mx,sB cap])
 (.call ⟨55,[.agg [sI .u32 mn,sI .u32 mx,.p (.sc (.bool cap))],sI .u32 most],[],.aK [.p (.ps n 1 Z),sI .i64 e],[]⟩
 (.must (((k+n)*1).ble aR&&(k+n).ble aR&&true)
 (.need (sI .i64 (re.wrap ((↑i:Int)+1))=sI re (↑(i+1):Int))
 (.at (ah ae env 28 1 [sI .i64 d,.p (.ps L.length 3 (ajO aF L)),sI .u32 most,.os (some 0) (k+n) 1 (X++Z),sI .i64 (↑(i+1):Int)] ([.tok]) 0 44)))))))))
 (.out (.ret (.os (some 0) k 1 X) [.tok])))
theorem zA (M:Mo) (d:Int) (L:List Li) (most:Int) (k:Nat) (i:Nat) (X:List PV) (e:Int) (n:Nat) (Z:List PV) (J:aah) (Q:aal) (J':aah) (Q':aal) (JN:aaI) (QN:abs) (mn mx:Int) (cap:Bool):grow ae env (adR M d L most k i X e n Z J Q J' Q' JN QN mn mx cap) 1000000 true (ah ae env 28 1 ([sI re d,AV.p (PV.ps L.length 3 (ajO aF L)),sI aeG most,AV.os (ae2 0) k 1 X,sI re (↑i:Int)]) ([bq.tok]) 0 44) aiG atEnd=vW M d L most k i X e n Z J Q J' Q' JN QN mn mx cap:=by kernel_rfl
def adS (M:Mo) (d e:Int) (lf:Bool) (n:Nat) (X:List PV):bA:=dY aE aC [] [(25,0,0)] [(25,5,2),(25,5,3)] (amn M d e lf n X)
def aiH:Sc:= .fin
def gP (M:Mo) (d e:Int) (lf:Bool) (n:Nat) (X:List PV):aA:=
 (.test (d==8)
 (.out (.ret (.p (.sc (.bool !M.st))) []))
 (.must (aP d 12&&true&&true)
 (.must (isInt re (aq [sP 0,sP (↑M.tys.length:Int),sP (↑M.aX.length:Int),sP (↑M.fns.length:Int),sP (↑M.b8.length:Int),sP (↑M.b9.length:Int),sP (↑M.gls.length:Int),sP (↑M.exs.length:Int),sP 0,sP (↑M.els.length:Int),sP (↑M.fns.length:Int),sP (↑M.bp.length:Int)] (d.toNat*1))&&true)
 (.need (sI .i64 (au (aq [sP 0,sP (↑M.tys.length:Int),sP (↑M.aX.length:Int),sP (↑M.fns.length:Int),sP (↑M.b8.length:Int),sP (↑M.b9.length:Int),sP (↑M.gls.length:Int),sP (↑M.exs.length:Int),sP 0,sP (↑M.els.length:Int),sP (↑M.fns.length:Int),sP (↑M.bp.length:Int)] (d.toNat*1)))=sI re (↑n:Int))
 (.out (.ret (.p (.sc (.bool ((↑n:Int)==0)))) []))))))
theorem fZ (M:Mo) (d e:Int) (lf:Bool) (n:Nat) (X:List PV):aI ae env (adS M d e lf n X) 1000000 25 ([AV.agg (mV M),sI re d]) ([]) aiH=gP M d e lf n X:=by kernel_rfl
def adT (M:Mo) (d e:Int) (lf:Bool) (n:Nat) (X:List PV):bA:=aM (air M d e lf n X) aC [] [(13,0,0),(13,5,3),(13,0,1),(13,0,2),(13,0,3),(13,0,4),(13,0,5)] []
def aiI:Sc:=(.fork .fin (.fork (.lit .fin) .fin))
def hJ (n:Nat) (X:List PV):aA:=
 (.out (.ret (.aK [.p (.ps n 1 X),sI .i64 0]) []))
def sS (M:Mo) (d e:Int) (lf:Bool) (n:Nat) (X:List PV):aA:=
 (.call ⟨24,[.agg (aeM AV.p M.aJ)],[],sI .i64 e,[]⟩
 (.test (e != 0)
 (.out (.ret (.aK [bB,sI .i64 e]) []))
 (.test (decide (d<1))
 (.out (.ret (.aK [bB,sI .i64 5]) []))
 (.test (decide (d>11))
 (.out (.ret (.aK [bB,sI .i64 5]) []))
 (.call ⟨25,[.agg (aeM AV.p M.aJ),sI .i64 d],[],.p (.sc (.bool lf)),[]⟩
 (.test (lf)
 (.out (.ret (.aK [bB,sI .i64 0]) []))
 (.test (decide (d≤3))
 (.call ⟨27,[.agg (aeM AV.p M.aJ),sI .i64 d],[],.p (.ps n 1 X),[]⟩
 (hJ n X))
 (.test (decide (d≤5))
 (.call ⟨28,[.agg (aeM AV.p M.aJ),sI .i64 d],[],.p (.ps n 1 X),[]⟩
 (hJ n X))
 (.test (decide (d≤8))
 (.call ⟨29,[.agg (aeM AV.p M.aJ),sI .i64 d],[],.p (.ps n 1 X),[]⟩
 (hJ n X))
 (.call ⟨30,[.agg (aeM AV.p M.aJ),sI .i64 d],[],.p (.ps n 1 X),[]⟩
 (hJ n X)))))))))))
theorem sU (M:Mo) (d e:Int) (lf:Bool) (n:Nat) (X:List PV):aI ae env (adT M d e lf n X) 1000000 13 ([AV.agg (mV M),sI re d]) ([]) aiI=sS M d e lf n X:=by kernel_rfl
def adU (M:Mo) (d e:Int) (lf:Bool) (n:Nat) (X:List PV):bA:=aM (air M d e lf n X) aC [(11,1)] [(11,0,0)] []
def aiJ:Sc:= .fin
def vX (M:Mo) (d e:Int) (lf:Bool) (n:Nat) (X:List PV):aA:=
 (.call ⟨24,[.agg (aeM AV.p M.aJ)],[],sI .i64 e,[]⟩
 (.test (e != 0)
 (.out (.ret (.aK [bB,sI .i64 e]) []))
 (.at (ah ae env 11 1 [.mp 0 0,.os none 8 1 [.sc (.int .u8 0),.sc (.int .u8 97),.sc (.int .u8 115),.sc (.int .u8 109),.sc (.int .u8 1),.sc (.int .u8 0),.sc (.int .u8 0),.sc (.int .u8 0)],sI .i64 1] ([.pc M.aJ]) 0 45))))
theorem zB (M:Mo) (d e:Int) (lf:Bool) (n:Nat) (X:List PV):aI ae env (adU M d e lf n X) 1000000 11 ([AV.agg (mV M)]) ([]) aiJ=vX M d e lf n X:=by kernel_rfl
def adV (M:Mo) (d:Nat) (k:Nat) (n:Nat) (lf:Bool) (X:List PV) (Y:List PV) (e:Int) (J:aah) (Q:aal):bA:=dY (ais M d k n lf X Y e J Q) (ais M d k n lf X Y e J Q) [(11,1)] [(11,0,2),(11,0,3),(11,0,4)] [(11,11,4),(11,12,4),(11,13,2)] (amo M d k n lf X Y e J Q)
def aiK:Sc:= .fin
def vY (M:Mo) (d:Nat) (k:Nat) (n:Nat) (lf:Bool) (X:List PV) (Y:List PV) (e:Int) (J:aah) (Q:aal):aA:=
 (.test (decide ((↑d:Int)≤11))
 (.call ⟨25,[.agg (aeM AV.p M.aJ),sI .i64 (↑d:Int)],[],.p (.sc (.bool lf)),[]⟩
 (.test (lf)
 (.need (sI .i64 (re.wrap ((↑d:Int)+1))=sI re (↑(d+1):Int))
 (.at (ah ae env 11 1 [.mp 0 0,.os (some 1) k 1 X,sI .i64 (↑(d+1):Int)] ([.pc M.aJ,.tok]) 0 45)))
 (.call ⟨13,[.agg (aeM AV.p M.aJ),sI .i64 (↑d:Int)],[],.aK [.p (.ps n 1 Y),sI .i64 e],[]⟩
 (.must (((k+1)*1).ble aR&&(k+1).ble aR&&true)
 (.call ⟨26,[sI .i64 (↑n:Int)],[],.os (some 0) (J (↑n:Int)) 1 (Q (↑n:Int)),[.tok]⟩
 (.must (((k+1+J (↑n:Int))*1).ble aR&&(k+1+J (↑n:Int)).ble aR&&true)
 (.must (((k+1+J (↑n:Int)+n)*1).ble aR&&(k+1+J (↑n:Int)+n).ble aR&&true)
 (.need (sI .i64 (re.wrap ((↑d:Int)+1))=sI re (↑(d+1):Int))
 (.at (ah ae env 11 1 [.mp 0 0,.os (some 1) (k+1+J (↑n:Int)+n) 1 (X++[.sc (.int .u8 (ajw.wrap (↑d:Int)))]++Q (↑n:Int)++Y),sI .i64 (↑(d+1):Int)] ([.pc M.aJ,.tok]) 0 45))))))))))
 (.test (decide ((↑k:Int)>1048576))
 (.out (.ret (.aK [bB,sI .i64 3]) []))
 (.out (.ret (.aK [.os (some 0) k 1 X,sI .i64 0]) [.tok]))))
theorem zC (M:Mo) (d:Nat) (k:Nat) (n:Nat) (lf:Bool) (X:List PV) (Y:List PV) (e:Int) (J:aah) (Q:aal):grow ae env (adV M d k n lf X Y e J Q) 1000000 true (ah ae env 11 1 ([AV.mp 0 0,AV.os (ae2 1) k 1 X,sI re (↑d:Int)]) ([bq.pc M.aJ,bq.tok]) 0 45) aiK atEnd=vY M d k n lf X Y e J Q:=by kernel_rfl
theorem jM (n:Int):az ae env 26 [sI .i64 n] [] (.os (some 0) (eV n).length 1 (bt (eV n))) [.tok]:=Wv n
theorem SO {n:Int} (h:0≤n∧n<4294967296):az ae env 52 [sI .u32 n] [] (.os (some 0) (eU n).length 1 (bt (eU n))) [.tok]:=kP h
noncomputable abbrev eO (f t nt:Nat) (M:Mo) (k:Nat) (L:List PV) (i:Nat):cm:=ah ae env f t [.mp 0 0,.os (some 1) k 1 L,sI .i64 i] [.pc M.aJ,.tok] 0 nt
theorem Ys {f t nt:Nat} {M:Mo} {k i:Nat} {L:List PV} {o:Out} {X:List Nat} (hk:k=X.length) (hL:L=bt X) (h:aU ae env (eO f t nt M X.length (bt X) i) o):aU ae env (eO f t nt M k L i) o:=by subst hk;subst hL;exact h
abbrev kQ (X:List Nat):Out:= .ret (.os (some 0) X.length 1 (bt X)) [.tok]
theorem aiL {α:Type} {l:List α} {e:α→List Nat} {D:List Nat→Nat→cm} {B:Nat} (step : ∀(X:List Nat) (i:Nat) (x:α),l[i]? = some x→X.length+(e x).length≤B → ∀o,aU ae env (D (X++e x) (i+1)) o→aU ae env (D X i) o)
  (fin : ∀X:List Nat,aU ae env (D X l.length) (kQ X)) : ∀(r i:Nat) (X:List Nat),i+r=l.length→X.length+((l.drop i).flatMap e).length≤B→aU ae env (D X i) (kQ (X++(l.drop i).flatMap e)):=by
 intro r
 induction r with
 |zero=>
  intro i X hi hX
  obtain rfl:i=l.length:=by omega
  rw[List.drop_length,akZ,Hc]
  exact fin X
 |succ r ih=>
  intro i X hi hX
  have nW:i<l.length:=by omega
  have hg:l[i]? = some l[i]:=da nW
  rw[pR hg,dC] at hX
  have k:=ih (i+1) (X++e l[i]) (by omega) (by rw[dC];omega)
  rw[tl X,←pR hg] at k
  exact step X i _ hg (by omega) _ k
theorem jg {α:Type} {l:List α} {e:α→List Nat} {D:List Nat→Nat→cm} {B:Nat} (step : ∀(X:List Nat) (i:Nat) (x:α),l[i]? = some x→X.length+(e x).length≤B → ∀o,aU ae env (D (X++e x) (i+1)) o→aU ae env (D X i) o)
  (fin : ∀X:List Nat,aU ae env (D X l.length) (kQ X)) (h0:l.length≠0) (hB:(yS l e).length≤B):aU ae env (D (eV l.length) 0) (kQ (yS l e)):=by
 have he:yS l e=eV l.length++(l.drop 0).flatMap e:=by unfold yS;rw[if_neg h0,aeI]
 rw[he] at hB ⊢
 rw[dC] at hB
 exact aiL step fin l.length 0 _ (by omega) hB
set_option maxHeartbeats 1000000 in
theorem SP (M:Mo) (hl:M.tys.length≤5000) (X:List Nat) (i:Nat) (x:Ty) (hx:M.tys[i]? = some x) (hX:X.length+(sF x).length≤10000000000000) (o:Out) (h:aU ae env (eO 27 1 107 M (X++sF x).length (bt (X++sF x)) (i+1)) o) :
  aU ae env (eO 27 1 107 M X.length (bt X) i) o:=by
 have bw:aR=70368744177664:=rfl
 have hi:i<M.tys.length:=(dT.1 hx).1
 have c:=aW (z:=2) (enc:=bK) (fun _=>rfl) hx
 have ew:(M.tys.flatMap bK).getD (i*2) .bz = .sc (.int .i64 x.p):=c 0 (by decide)
 have eD:(M.tys.flatMap bK).getD (i*2+0) .bz = .sc (.int .i64 x.p):=c 0 (by decide)
 have gq:(M.tys.flatMap bK).getD (i*2+1) .bz = .sc (.int .i64 x.r):=c 1 (by decide)
 have hd:decide ((i:Int)<(M.tys.length:Int))=true:=decide_eq_true (by omega)
 have w:re.wrap ((i:Int)+1)=((i+1:Nat):Int):=by rw[aQ (by omega) (by omega)];rfl
 have hin:aP (i:Int) M.tys.length=true:=by simp only[aP,di,decide_eq_true_eq];omega
 refine af aH (Hf M X.length i (bt X) (vv x) (sF x).length (bt (sF x)) (fun n=>(eV n).length) (fun n=>bt (eV n)) (fun n=>(eU n).length) (fun n=>bt (eU n)) (fun s=>(eM s).length) (fun s=>bt (eM s)) x.p x.r) ?_
 simp only[Eb,aV,aA.ok,isStr,isInt,aO,isBool,bg,au,bf,an,aD,ak,afm,ajQ,ajX,beq_self_eq_true,akN,hd,hin,w,bW,ew,eD,gq]
 simp only[di,ajp,ajS,bw,my]
 refine⟨fun _=> ?_,fun q=>(by cases q)⟩
 repeat' first | exact akX | with_reducible refine ags ?_ ?_ | with_reducible exact Sv x | omega | exact Ys (by first | rfl | (simp only[dC,ml,aeK,my]<;>omega)) (by first | (simp only[aS,bU,cA,tl,Ps,Hm];done) | (simp only[aS,bU,cA,tl,Ps,Hm];rfl)) h
theorem Xn (M:Mo) (X:List Nat):aU ae env (eO 27 1 107 M X.length (bt X) M.tys.length) (kQ X):=by
 have hd:decide ((M.tys.length:Int)<(M.tys.length:Int))=false:=decide_eq_false (by omega)
 refine af aH (Hf M X.length M.tys.length (bt X) 0 0 [] (fun n=>(eV n).length) (fun n=>bt (eV n)) (fun n=>(eU n).length) (fun n=>bt (eU n)) (fun s=>(eM s).length) (fun s=>bt (eM s)) 0 0) ?_
 simp only[Eb,aV,aA.ok,hd]
 exact⟨fun q=>(by cases q),fun _=>(by first | exact akX | rfl)⟩
set_option maxHeartbeats 1000000 in
theorem SQ (M:Mo) (hl:M.aX.length≤5000) (X:List Nat) (i:Nat) (x:Im) (hx:M.aX[i]? = some x) (hs:x.mo.data.toList.length≤1000000∧x.nm.data.toList.length≤1000000) (hX:X.length+(BV x).length≤10000000000000) (o:Out) (h:aU ae env (eO 27 4 107 M (X++BV x).length (bt (X++BV x)) (i+1)) o) :
  aU ae env (eO 27 4 107 M X.length (bt X) i) o:=by
 have bw:aR=70368744177664:=rfl
 have hi:i<M.aX.length:=(dT.1 hx).1
 have c:=aW (z:=3) (enc:=bh) (fun _=>rfl) hx
 have ew:(M.aX.flatMap bh).getD (i*3) .bz = .sc (.string x.mo):=c 0 (by decide)
 have eD:(M.aX.flatMap bh).getD (i*3+0) .bz = .sc (.string x.mo):=c 0 (by decide)
 have gq:(M.aX.flatMap bh).getD (i*3+1) .bz = .sc (.string x.nm):=c 1 (by decide)
 have nk:(M.aX.flatMap bh).getD (i*3+1+1) .bz = .sc (.int .i64 x.ty):=c 2 (by decide)
 have nq:(M.aX.flatMap bh).getD (i*3+2) .bz = .sc (.int .i64 x.ty):=c 2 (by decide)
 have hd:decide ((i:Int)<(M.aX.length:Int))=true:=decide_eq_true (by omega)
 have w:re.wrap ((i:Int)+1)=((i+1:Nat):Int):=by rw[aQ (by omega) (by omega)];rfl
 have hin:aP (i:Int) M.aX.length=true:=by simp only[aP,di,decide_eq_true_eq];omega
 refine af aH (Hg M X.length i (bt X) 0 0 [] (fun n=>(eV n).length) (fun n=>bt (eV n)) (fun n=>(eU n).length) (fun n=>bt (eU n)) (fun s=>(eM s).length) (fun s=>bt (eM s)) x.mo x.nm x.ty) ?_
 simp only[Ec,aV,aA.ok,isStr,isInt,aO,isBool,bg,au,bf,an,aD,ak,afm,ajQ,ajX,beq_self_eq_true,akN,hd,hin,w,bW,ew,eD,gq,nk,nq]
 simp only[di,ajp,ajS,bw,my]
 simp only[BV,dC,ml,aeK,my] at hX
 refine⟨fun _=> ?_,fun q=>(by cases q)⟩
 repeat' first | exact akX | with_reducible refine ags ?_ ?_ | with_reducible exact zp x.mo hs.1 | with_reducible exact zp x.nm hs.2 | with_reducible exact jM x.ty | omega | exact Ys (by first | rfl | (simp only[BV,dC,ml,aeK,my]<;>omega)) (by first | (simp only[BV,aS,bU,cA,tl,Ps,Hm];done) | (simp only[BV,aS,bU,cA,tl,Ps,Hm];rfl)) h
theorem Xo (M:Mo) (X:List Nat):aU ae env (eO 27 4 107 M X.length (bt X) M.aX.length) (kQ X):=by
 have hd:decide ((M.aX.length:Int)<(M.aX.length:Int))=false:=decide_eq_false (by omega)
 refine af aH (Hg M X.length M.aX.length (bt X) 0 0 [] (fun n=>(eV n).length) (fun n=>bt (eV n)) (fun n=>(eU n).length) (fun n=>bt (eU n)) (fun s=>(eM s).length) (fun s=>bt (eM s)) .empty .empty 0) ?_
 simp only[Ec,aV,aA.ok,hd]
 exact⟨fun q=>(by cases q),fun _=>(by first | exact akX | rfl)⟩
set_option maxHeartbeats 1000000 in
theorem SR (M:Mo) (hl:M.fns.length≤5000) (X:List Nat) (i:Nat) (x:Fu) (hx:M.fns[i]? = some x) (hX:X.length+(BW x).length≤10000000000000) (o:Out) (h:aU ae env (eO 27 6 107 M (X++BW x).length (bt (X++BW x)) (i+1)) o) :
  aU ae env (eO 27 6 107 M X.length (bt X) i) o:=by
 have bw:aR=70368744177664:=rfl
 have hi:i<M.fns.length:=(dT.1 hx).1
 have c:=aW (z:=3) (enc:=aG) (fun _=>rfl) hx
 have ew:(M.fns.flatMap aG).getD (i*3) .bz = .sc (.int .i64 x.ty):=c 0 (by decide)
 have eD:(M.fns.flatMap aG).getD (i*3+0) .bz = .sc (.int .i64 x.ty):=c 0 (by decide)
 have gq:(M.fns.flatMap aG).getD (i*3+1) .bz = .sc (.int .i64 x.lo):=c 1 (by decide)
 have nk:(M.fns.flatMap aG).getD (i*3+1+1) .bz = .ps (x.l).length 8 (aj (x.l)):=c 2 (by decide)
 have nq:(M.fns.flatMap aG).getD (i*3+2) .bz = .ps (x.l).length 8 (aj (x.l)):=c 2 (by decide)
 have hd:decide ((i:Int)<(M.fns.length:Int))=true:=decide_eq_true (by omega)
 have w:re.wrap ((i:Int)+1)=((i+1:Nat):Int):=by rw[aQ (by omega) (by omega)];rfl
 have hin:aP (i:Int) M.fns.length=true:=by simp only[aP,di,decide_eq_true_eq];omega
 refine af aH (Hh M X.length i (bt X) 0 0 [] (fun n=>(eV n).length) (fun n=>bt (eV n)) (fun n=>(eU n).length) (fun n=>bt (eU n)) (fun s=>(eM s).length) (fun s=>bt (eM s)) x.ty) ?_
 simp only[Ed,aV,aA.ok,isStr,isInt,aO,isBool,bg,au,bf,an,aD,ak,afm,ajQ,ajX,beq_self_eq_true,akN,hd,hin,w,bW,ew,eD,gq,nk,nq]
 simp only[di,ajp,ajS,bw,my]
 simp only[BW,dC,ml,aeK,my] at hX
 refine⟨fun _=> ?_,fun q=>(by cases q)⟩
 repeat' first | exact akX | with_reducible refine ags ?_ ?_ | with_reducible exact jM x.ty | omega | exact Ys (by first | rfl | (simp only[BW,dC,ml,aeK,my]<;>omega)) (by first | (simp only[BW,aS,bU,cA,tl,Ps,Hm];done) | (simp only[BW,aS,bU,cA,tl,Ps,Hm];rfl)) h
theorem Xp (M:Mo) (X:List Nat):aU ae env (eO 27 6 107 M X.length (bt X) M.fns.length) (kQ X):=by
 have hd:decide ((M.fns.length:Int)<(M.fns.length:Int))=false:=decide_eq_false (by omega)
 refine af aH (Hh M X.length M.fns.length (bt X) 0 0 [] (fun n=>(eV n).length) (fun n=>bt (eV n)) (fun n=>(eU n).length) (fun n=>bt (eU n)) (fun s=>(eM s).length) (fun s=>bt (eM s)) 0) ?_
 simp only[Ed,aV,aA.ok,hd]
 exact⟨fun q=>(by cases q),fun _=>(by first | exact akX | rfl)⟩
set_option maxHeartbeats 1000000 in
theorem SS (M:Mo) (hl:M.gls.length≤5000) (X:List Nat) (i:Nat) (x:Gl) (hx:M.gls[i]? = some x) (hs:qn x.l∧cz x.l≤1000000) (hX:X.length+(BZ x).length≤10000000000000) (o:Out) (h:aU ae env (eO 29 1 91 M (X++BZ x).length (bt (X++BZ x)) (i+1)) o) :
  aU ae env (eO 29 1 91 M X.length (bt X) i) o:=by
 have bw:aR=70368744177664:=rfl
 have hi:i<M.gls.length:=(dT.1 hx).1
 have c:=aW (z:=2) (enc:=bn) (fun _=>rfl) hx
 have ew:(M.gls.flatMap bn).getD (i*2) .bz = .sc (.bool x.mu):=c 0 (by decide)
 have eD:(M.gls.flatMap bn).getD (i*2+0) .bz = .sc (.bool x.mu):=c 0 (by decide)
 have gq:(M.gls.flatMap bn).getD (i*2+1) .bz = .ps (x.l).length 8 (aj (x.l)):=c 1 (by decide)
 have hd:decide ((i:Int)<(M.gls.length:Int))=true:=decide_eq_true (by omega)
 have w:re.wrap ((i:Int)+1)=((i+1:Nat):Int):=by rw[aQ (by omega) (by omega)];rfl
 have hin:aP (i:Int) M.gls.length=true:=by simp only[aP,di,decide_eq_true_eq];omega
 refine af aH (Hi M X.length i (bt X) 0 (kM x.l).length (bt (kM x.l)) (fun n=>(eV n).length) (fun n=>bt (eV n)) (fun n=>(eU n).length) (fun n=>bt (eU n)) (fun s=>(eM s).length) (fun s=>bt (eM s)) x.mu x.l) ?_
 simp only[Ee,aV,aA.ok,isStr,isInt,aO,isBool,bg,au,bf,an,aD,ak,afm,ajQ,ajX,beq_self_eq_true,akN,hd,hin,w,bW,ew,eD,gq]
 simp only[di,ajp,ajS,bw,my]
 simp only[BZ,dC,ml,aeK,my] at hX
 refine⟨fun _=>⟨trivial,trivial,trivial,fun hm=> ?_,fun hm=> ?_⟩,fun q=>(by cases q)⟩
 repeat' first | exact akX | with_reducible refine ags ?_ ?_ | with_reducible exact zq hs.1 hs.2 | omega | exact Ys (by first | rfl | (simp only[BZ,hm,if_true,o0,if_false,dC,ml,aeK,my]<;>omega)) (by first | (simp only[BZ,hm,if_true,o0,if_false,aS,bU,cA,tl,Ps,Hm];done) | (simp only[BZ,hm,if_true,o0,if_false,aS,bU,cA,tl,Ps,Hm];rfl)) h
theorem Xq (M:Mo) (X:List Nat):aU ae env (eO 29 1 91 M X.length (bt X) M.gls.length) (kQ X):=by
 have hd:decide ((M.gls.length:Int)<(M.gls.length:Int))=false:=decide_eq_false (by omega)
 refine af aH (Hi M X.length M.gls.length (bt X) 0 0 [] (fun n=>(eV n).length) (fun n=>bt (eV n)) (fun n=>(eU n).length) (fun n=>bt (eU n)) (fun s=>(eM s).length) (fun s=>bt (eM s)) false []) ?_
 simp only[Ee,aV,aA.ok,hd]
 exact⟨fun q=>(by cases q),fun _=>(by first | exact akX | rfl)⟩
set_option maxHeartbeats 1000000 in
theorem SU (M:Mo) (hl:M.exs.length≤5000) (X:List Nat) (i:Nat) (x:Ex) (hx:M.exs[i]? = some x) (hs:x.nm.data.toList.length≤1000000∧0≤x.ix∧x.ix<4294967296) (hX:X.length+(B0 x).length≤10000000000000) (o:Out) (h:aU ae env (eO 29 5 91 M (X++B0 x).length (bt (X++B0 x)) (i+1)) o) :
  aU ae env (eO 29 5 91 M X.length (bt X) i) o:=by
 have bw:aR=70368744177664:=rfl
 have hi:i<M.exs.length:=(dT.1 hx).1
 have c:=aW (z:=3) (enc:=bu) (fun _=>rfl) hx
 have ew:(M.exs.flatMap bu).getD (i*3) .bz = .sc (.string x.nm):=c 0 (by decide)
 have eD:(M.exs.flatMap bu).getD (i*3+0) .bz = .sc (.string x.nm):=c 0 (by decide)
 have gq:(M.exs.flatMap bu).getD (i*3+1) .bz = .sc (.int .i64 x.kind):=c 1 (by decide)
 have nk:(M.exs.flatMap bu).getD (i*3+1+1) .bz = .sc (.int .u32 x.ix):=c 2 (by decide)
 have nq:(M.exs.flatMap bu).getD (i*3+2) .bz = .sc (.int .u32 x.ix):=c 2 (by decide)
 have hd:decide ((i:Int)<(M.exs.length:Int))=true:=decide_eq_true (by omega)
 have w:re.wrap ((i:Int)+1)=((i+1:Nat):Int):=by rw[aQ (by omega) (by omega)];rfl
 have hin:aP (i:Int) M.exs.length=true:=by simp only[aP,di,decide_eq_true_eq];omega
 refine af aH (Hj M X.length i (bt X) 0 0 [] (fun n=>(eV n).length) (fun n=>bt (eV n)) (fun n=>(eU n).length) (fun n=>bt (eU n)) (fun s=>(eM s).length) (fun s=>bt (eM s)) x.nm x.kind x.ix) ?_
 simp only[Ef,aV,aA.ok,isStr,isInt,aO,isBool,bg,au,bf,an,aD,ak,afm,ajQ,ajX,beq_self_eq_true,akN,hd,hin,w,bW,ew,eD,gq,nk,nq]
 simp only[di,ajp,ajS,bw,my]
 simp only[B0,dC,ml,aeK,my] at hX
 refine⟨fun _=> ?_,fun q=>(by cases q)⟩
 repeat' first | exact akX | with_reducible refine ags ?_ ?_ | with_reducible exact zp x.nm hs.1 | with_reducible exact SO hs.2 | omega | exact Ys (by first | rfl | (simp only[B0,dC,ml,aeK,my]<;>omega)) (by first | (simp only[B0,aS,bU,cA,tl,Ps,Hm];done) | (simp only[B0,aS,bU,cA,tl,Ps,Hm];rfl)) h
theorem Xr (M:Mo) (X:List Nat):aU ae env (eO 29 5 91 M X.length (bt X) M.exs.length) (kQ X):=by
 have hd:decide ((M.exs.length:Int)<(M.exs.length:Int))=false:=decide_eq_false (by omega)
 refine af aH (Hj M X.length M.exs.length (bt X) 0 0 [] (fun n=>(eV n).length) (fun n=>bt (eV n)) (fun n=>(eU n).length) (fun n=>bt (eU n)) (fun s=>(eM s).length) (fun s=>bt (eM s)) .empty 0 0) ?_
 simp only[Ef,aV,aA.ok,hd]
 exact⟨fun q=>(by cases q),fun _=>(by first | exact akX | rfl)⟩
set_option maxHeartbeats 1000000 in
theorem SV (M:Mo) (hl:M.fns.length≤5000) (X:List Nat) (i:Nat) (x:Fu) (hx:M.fns[i]? = some x) (hs:qn x.l∧cz x.l≤1000000) (hX:X.length+(B2 x).length≤10000000000000) (o:Out) (h:aU ae env (eO 30 6 150 M (X++B2 x).length (bt (X++B2 x)) (i+1)) o) :
  aU ae env (eO 30 6 150 M X.length (bt X) i) o:=by
 have bw:aR=70368744177664:=rfl
 have hi:i<M.fns.length:=(dT.1 hx).1
 have c:=aW (z:=3) (enc:=aG) (fun _=>rfl) hx
 have ew:(M.fns.flatMap aG).getD (i*3) .bz = .sc (.int .i64 x.ty):=c 0 (by decide)
 have eD:(M.fns.flatMap aG).getD (i*3+0) .bz = .sc (.int .i64 x.ty):=c 0 (by decide)
 have gq:(M.fns.flatMap aG).getD (i*3+1) .bz = .sc (.int .i64 x.lo):=c 1 (by decide)
 have nk:(M.fns.flatMap aG).getD (i*3+1+1) .bz = .ps (x.l).length 8 (aj (x.l)):=c 2 (by decide)
 have nq:(M.fns.flatMap aG).getD (i*3+2) .bz = .ps (x.l).length 8 (aj (x.l)):=c 2 (by decide)
 have hd:decide ((i:Int)<(M.fns.length:Int))=true:=decide_eq_true (by omega)
 have w:re.wrap ((i:Int)+1)=((i+1:Nat):Int):=by rw[aQ (by omega) (by omega)];rfl
 have hin:aP (i:Int) M.fns.length=true:=by simp only[aP,di,decide_eq_true_eq];omega
 refine af aH (Ho M X.length i (bt X) (Qa x.lo x.l) (AA x.lo x.l).length (bt (AA x.lo x.l)) (fun n=>(eV n).length) (fun n=>bt (eV n)) (fun n=>(eU n).length) (fun n=>bt (eU n)) (fun s=>(eM s).length) (fun s=>bt (eM s)) x.lo x.l) ?_
 simp only[Eh,aV,aA.ok,isStr,isInt,aO,isBool,bg,au,bf,an,aD,ak,afm,ajQ,ajX,beq_self_eq_true,akN,hd,hin,w,bW,ew,eD,gq,nk,nq]
 simp only[di,ajp,ajS,bw,my]
 simp only[B2,dC,ml,aeK,my] at hX
 refine⟨fun _=> ?_,fun q=>(by cases q)⟩
 repeat' first | exact akX | with_reducible refine ags ?_ ?_ | with_reducible exact UK x.lo hs.1 hs.2 | with_reducible exact jM _ | omega | exact Ys (by first | rfl | (simp only[B2,dC,ml,aeK,my]<;>omega)) (by first | (simp only[B2,aS,bU,cA,tl,Ps,Hm];done) | (simp only[B2,aS,bU,cA,tl,Ps,Hm];rfl)) h
theorem Xs (M:Mo) (X:List Nat):aU ae env (eO 30 6 150 M X.length (bt X) M.fns.length) (kQ X):=by
 have hd:decide ((M.fns.length:Int)<(M.fns.length:Int))=false:=decide_eq_false (by omega)
 refine af aH (Ho M X.length M.fns.length (bt X) 0 0 [] (fun n=>(eV n).length) (fun n=>bt (eV n)) (fun n=>(eU n).length) (fun n=>bt (eU n)) (fun s=>(eM s).length) (fun s=>bt (eM s)) 0 []) ?_
 simp only[Eh,aV,aA.ok,hd]
 exact⟨fun q=>(by cases q),fun _=>(by first | exact akX | rfl)⟩
set_option maxHeartbeats 1000000 in
theorem SW (M:Mo) (hl:M.bp.length≤5000) (X:List Nat) (i:Nat) (x:Da) (hx:M.bp[i]? = some x) (hs:qn x.l∧cz x.l≤1000000∧x.bs.length≤1000000 ∧ ∀b∈x.bs,0≤b) (hX:X.length+(B3 x).length≤10000000000000) (o:Out) (h:aU ae env (eO 30 8 150 M (X++B3 x).length (bt (X++B3 x)) (i+1)) o) :
  aU ae env (eO 30 8 150 M X.length (bt X) i) o:=by
 have bw:aR=70368744177664:=rfl
 have hi:i<M.bp.length:=(dT.1 hx).1
 have c:=aW (z:=2) (enc:=aZ) (fun _=>rfl) hx
 have ew:(M.bp.flatMap aZ).getD (i*2) .bz = .ps (x.l).length 8 (aj (x.l)):=c 0 (by decide)
 have eD:(M.bp.flatMap aZ).getD (i*2+0) .bz = .ps (x.l).length 8 (aj (x.l)):=c 0 (by decide)
 have gq:(M.bp.flatMap aZ).getD (i*2+1) .bz = .ps (x.bs).length 1 (bN .u8 (x.bs)):=c 1 (by decide)
 have hbt:=Ld hs.2.2.2
 have hd:decide ((i:Int)<(M.bp.length:Int))=true:=decide_eq_true (by omega)
 have w:re.wrap ((i:Int)+1)=((i+1:Nat):Int):=by rw[aQ (by omega) (by omega)];rfl
 have hin:aP (i:Int) M.bp.length=true:=by simp only[aP,di,decide_eq_true_eq];omega
 refine af aH (Hp M X.length i (bt X) 0 (kM x.l).length (bt (kM x.l)) (fun n=>(eV n).length) (fun n=>bt (eV n)) (fun n=>(eU n).length) (fun n=>bt (eU n)) (fun s=>(eM s).length) (fun s=>bt (eM s)) x.l x.bs) ?_
 simp only[Ei,aV,aA.ok,isStr,isInt,aO,isBool,bg,au,bf,an,aD,ak,afm,ajQ,ajX,beq_self_eq_true,akN,hd,hin,w,bW,ew,eD,gq,hbt]
 simp only[di,ajp,ajS,bw,my]
 simp only[B3,dC,ml,aeK,my] at hX
 refine⟨fun _=> ?_,fun q=>(by cases q)⟩
 repeat' first | exact akX | with_reducible refine ags ?_ ?_ | with_reducible exact zq hs.1 hs.2.1 | with_reducible exact jM _ | omega | exact Ys (by first | rfl | (simp only[B3,dC,ml,aeK,my]<;>omega)) (by first | (simp only[B3,aS,bU,cA,tl,Ps,Hm];done) | (simp only[B3,aS,bU,cA,tl,Ps,Hm];rfl)) h
theorem Xt (M:Mo) (X:List Nat):aU ae env (eO 30 8 150 M X.length (bt X) M.bp.length) (kQ X):=by
 have hd:decide ((M.bp.length:Int)<(M.bp.length:Int))=false:=decide_eq_false (by omega)
 refine af aH (Hp M X.length M.bp.length (bt X) 0 0 [] (fun n=>(eV n).length) (fun n=>bt (eV n)) (fun n=>(eU n).length) (fun n=>bt (eU n)) (fun s=>(eM s).length) (fun s=>bt (eM s)) [] []) ?_
 simp only[Ei,aV,aA.ok,hd]
 exact⟨fun q=>(by cases q),fun _=>(by first | exact akX | rfl)⟩
noncomputable abbrev adW (M:Mo) (k:Nat) (L:List PV) (i j:Nat):cm:=ah ae env 30 3 [.mp 0 0,.os (some 1) k 1 L,sI .i64 i,sI .i64 j] [.pc M.aJ,.tok] 0 150
theorem eEq {M:Mo} {k i j:Nat} {L:List PV} {o:Out} {X:List Nat} (hk:k=X.length) (hL:L=bt X) (h:aU ae env (adW M X.length (bt X) i j) o):aU ae env (adW M k L i j) o:=by subst hk;subst hL;exact h
theorem Xu (M:Mo) (hl:M.els.length≤5000) (i:Nat) (x:El) (hx:M.els[i]? = some x) (hf:x.fs.length≤1000000) (hu : ∀t∈x.fs,0≤t∧t<4294967296) (o:Out) : ∀(r j:Nat) (X:List Nat),j+r=x.fs.length→X.length+5*r≤20000000000000 →
  aU ae env (eO 30 1 150 M (X++(x.fs.drop j).flatMap eU).length (bt (X++(x.fs.drop j).flatMap eU)) (i+1)) o→aU ae env (adW M X.length (bt X) i j) o:=by
 have bw:aR=70368744177664:=rfl
 have hi:i<M.els.length:=(dT.1 hx).1
 have c:=aW (z:=2) (enc:=aN) (fun _=>rfl) hx
 have ew:(M.els.flatMap aN).getD (i*2) .bz = .ps (x.l).length 8 (aj (x.l)):=c 0 (by decide)
 have eD:(M.els.flatMap aN).getD (i*2+0) .bz = .ps (x.l).length 8 (aj (x.l)):=c 0 (by decide)
 have gq:(M.els.flatMap aN).getD (i*2+1) .bz = .ps (x.fs).length 1 (bN .u32 (x.fs)):=c 1 (by decide)
 have hin:aP (i:Int) M.els.length=true:=by simp only[aP,di,decide_eq_true_eq];omega
 have w:re.wrap ((i:Int)+1)=((i+1:Nat):Int):=by rw[aQ (by omega) (by omega)];rfl
 intro r
 induction r with
 |zero=>
  intro j X hj hX h
  have hd:decide ((j:Int)<(x.fs.length:Int))=false:=decide_eq_false (by omega)
  rw[List.drop_of_length_le (by omega),akZ,Hc] at h
  refine af aH (Hq M X.length i j (bt X) 0 0 [] (fun n=>(eV n).length) (fun n=>bt (eV n)) (fun n=>(eU n).length) (fun n=>bt (eU n)) (fun s=>(eM s).length) (fun s=>bt (eM s)) x.fs 0) ?_
  simp only[Ej,aV,aA.ok,aO,an,aD,ak,afm,ajQ,ajX,hd,hin,w,ew,eD,gq]
  exact⟨trivial,trivial,trivial,fun q=>(by cases q),fun _=>⟨trivial,h⟩⟩
 |succ r ih=>
  intro j X hj hX h
  have hjl:j<x.fs.length:=by omega
  have hg:x.fs[j]? = some x.fs[j]:=da hjl
  have hd:decide ((j:Int)<(x.fs.length:Int))=true:=decide_eq_true (by omega)
  have hjn:aP (j:Int) x.fs.length=true:=by simp only[aP,di,decide_eq_true_eq];omega
  have hc:=vO hjl
  have wj:re.wrap ((j:Int)+1)=((j+1:Nat):Int):=by rw[aQ (by omega) (by omega)];rfl
  have hl:=gy x.fs[j]
  rw[pR hg,←tl] at h
  have k:=ih (j+1) (X++eU x.fs[j]) (by omega) (by rw[dC];omega) h
  refine af aH (Hq M X.length i j (bt X) 0 0 [] (fun n=>(eV n).length) (fun n=>bt (eV n)) (fun n=>(eU n).length) (fun n=>bt (eU n)) (fun s=>(eM s).length) (fun s=>bt (eM s)) x.fs x.fs[j]) ?_
  simp only[Ej,aV,aA.ok,aO,an,aD,ak,isInt,au,afm,ajQ,ajX,beq_self_eq_true,hd,hin,hjn,w,wj,hc,ew,eD,gq]
  simp only[di,ajp,ajS,bw]
  exact⟨trivial,trivial,trivial,fun _=>⟨trivial,trivial,trivial,trivial,trivial,trivial,SO (hu _ (List.getElem_mem hjl)),⟨by omega,by omega⟩,trivial,eEq (by rw[dC]) (by rw[aS]) k⟩,fun q=>(by cases q)⟩
set_option maxHeartbeats 1000000 in
theorem SX (M:Mo) (hl:M.els.length≤5000) (X:List Nat) (i:Nat) (x:El) (hx:M.els[i]? = some x) (hs:qn x.l∧cz x.l≤1000000∧x.fs.length≤1000000 ∧ ∀t∈x.fs,0≤t∧t<4294967296) (hX:X.length+(EC x).length≤10000000000000) (o:Out) (h:aU ae env (eO 30 1 150 M (X++EC x).length (bt (X++EC x)) (i+1)) o) :
  aU ae env (eO 30 1 150 M X.length (bt X) i) o:=by
 have bw:aR=70368744177664:=rfl
 have hi:i<M.els.length:=(dT.1 hx).1
 have c:=aW (z:=2) (enc:=aN) (fun _=>rfl) hx
 have ew:(M.els.flatMap aN).getD (i*2) .bz = .ps (x.l).length 8 (aj (x.l)):=c 0 (by decide)
 have eD:(M.els.flatMap aN).getD (i*2+0) .bz = .ps (x.l).length 8 (aj (x.l)):=c 0 (by decide)
 have gq:(M.els.flatMap aN).getD (i*2+1) .bz = .ps (x.fs).length 1 (bN .u32 (x.fs)):=c 1 (by decide)
 have hd:decide ((i:Int)<(M.els.length:Int))=true:=decide_eq_true (by omega)
 have hin:aP (i:Int) M.els.length=true:=by simp only[aP,di,decide_eq_true_eq];omega
 have l1:=oL hs.2.1
 have l2:=eg (x.fs.length:Int)
 have k:=Xu M hl i x hx hs.2.2.1 hs.2.2.2 o x.fs.length 0 (X++[0]++kM x.l++eV x.fs.length) (by omega) (by simp only[dC,ml,aeK,my];omega) (by rw[aeI,show X++[0]++kM x.l++eV x.fs.length++x.fs.flatMap eU=X++EC x by simp[EC]];exact h)
 refine af aH (Hl M X.length i (bt X) 0 (kM x.l).length (bt (kM x.l)) (fun n=>(eV n).length) (fun n=>bt (eV n)) (fun n=>(eU n).length) (fun n=>bt (eU n)) (fun s=>(eM s).length) (fun s=>bt (eM s)) x.l x.fs) ?_
 simp only[Eg,aV,aA.ok,aO,an,aD,ak,afm,ajQ,ajX,hd,hin,ew,eD,gq]
 simp only[di,ajp,ajS,bw]
 refine⟨fun _=>⟨⟨by omega,by omega⟩,trivial,trivial,trivial,zq hs.1 hs.2.1,⟨by omega,by omega⟩,trivial,trivial,trivial,jM _,⟨by omega,by omega⟩,?_⟩,fun q=>(by cases q)⟩
 exact aU.Az (by kernel_rfl) (eEq (X:=X++[0]++kM x.l++eV x.fs.length) (k:=X.length+1+(kM x.l).length+(eV x.fs.length).length) (L:=bt X++[.sc (.int .u8 0)]++bt (kM x.l)++bt (eV x.fs.length)) (by rw[dC,dC,dC];rfl) (by rw[aS,aS,aS];rfl) k)
theorem Xv (M:Mo) (X:List Nat):aU ae env (eO 30 1 150 M X.length (bt X) M.els.length) (kQ X):=by
 have hd:decide ((M.els.length:Int)<(M.els.length:Int))=false:=decide_eq_false (by omega)
 refine af aH (Hl M X.length M.els.length (bt X) 0 0 [] (fun n=>(eV n).length) (fun n=>bt (eV n)) (fun n=>(eU n).length) (fun n=>bt (eU n)) (fun s=>(eM s).length) (fun s=>bt (eM s)) [] []) ?_
 simp only[Eg,aV,aA.ok,hd]
 exact⟨fun q=>(by cases q),fun _=>(by first | exact akX | rfl)⟩
noncomputable abbrev zD (d:Int) (L:List Li) (most:Int) (k:Nat) (Y:List PV) (i:Nat):cm:=ah ae env 28 1 [sI .i64 d,.p (.ps L.length 3 (L.flatMap aF)),sI .u32 most,.os (some 0) k 1 Y,sI .i64 i] [.tok] 0 44
theorem lEq {d:Int} {L:List Li} {most:Int} {k i:Nat} {Y:List PV} {o:Out} {X:List Nat} (hk:k=X.length) (hL:Y=bt X) (h:aU ae env (zD d L most X.length (bt X) i) o):aU ae env (zD d L most k Y i) o:=by subst hk;subst hL;exact h
theorem Lh (M:Mo) (d:Int) (L:List Li) (most:Int) (X:List Nat):aU ae env (zD d L most X.length (bt X) L.length) (kQ X):=by
 have hd:decide ((L.length:Int)<(L.length:Int))=false:=decide_eq_false (by omega)
 refine af aH (zA M d L most X.length L.length (bt X) 0 0 [] (fun n=>(eV n).length) (fun n=>bt (eV n)) (fun n=>(eU n).length) (fun n=>bt (eU n)) (fun s=>(eM s).length) (fun s=>bt (eM s)) 0 0 false) ?_
 simp only[vW,aV,aA.ok,hd]
 exact⟨fun q=>(by cases q),fun _=>(by first | exact akX | rfl)⟩
theorem NI (M:Mo) (L:List Li) (hl:L.length≤5000) (X:List Nat) (i:Nat) (x:Li) (hx:L[i]? = some x) (hw:uj x) (hX:X.length+(BX x).length≤10000000000000) (o:Out) (h:aU ae env (zD 4 L 1048576 (X++BX x).length (bt (X++BX x)) (i+1)) o) :
  aU ae env (zD 4 L 1048576 X.length (bt X) i) o:=by
 have bw:aR=70368744177664:=rfl
 have hi:i<L.length:=(dT.1 hx).1
 have c:=aW (z:=3) (enc:=aF) (fun _=>rfl) hx
 have ew:(L.flatMap aF).getD (i*3) .bz = .sc (.int .u32 x.mn):=c 0 (by decide)
 have eD:(L.flatMap aF).getD (i*3+0) .bz = .sc (.int .u32 x.mn):=c 0 (by decide)
 have gq:(L.flatMap aF).getD (i*3+1) .bz = .sc (.int .u32 x.mx):=c 1 (by decide)
 have nk:(L.flatMap aF).getD (i*3+1+1) .bz = .sc (.bool x.cap):=c 2 (by decide)
 have nq:(L.flatMap aF).getD (i*3+2) .bz = .sc (.bool x.cap):=c 2 (by decide)
 have hd:decide ((i:Int)<(L.length:Int))=true:=decide_eq_true (by omega)
 have w:re.wrap ((i:Int)+1)=((i+1:Nat):Int):=by rw[aQ (by omega) (by omega)];rfl
 have hin:aP (i:Int) L.length=true:=by simp only[aP,di,decide_eq_true_eq];omega
 have h4:((4:Int)==4)=true:=by decide
 refine af aH (zA M 4 L 1048576 X.length i (bt X) (yC 1048576 x) (tr 1048576 x).length (bt (tr 1048576 x)) (fun n=>(eV n).length) (fun n=>bt (eV n)) (fun n=>(eU n).length) (fun n=>bt (eU n)) (fun s=>(eM s).length) (fun s=>bt (eM s)) x.mn x.mx x.cap) ?_
 simp only[vW,aV,aA.ok,isStr,isInt,aO,isBool,bg,au,bf,an,aD,ak,afm,ajQ,ajX,beq_self_eq_true,akN,hd,hin,w,bW,h4,ew,eD,gq,nk,nq]
 simp only[di,ajp,ajS,bw]
 simp only[BX,dC,ml,aeK,my] at hX
 refine⟨fun _=>⟨fun _=> ?_,fun q=> ?_⟩,fun q=>(by cases q)⟩
 · repeat' first | exact akX | with_reducible refine ags ?_ ?_ | with_reducible exact Gu 1048576 x hw | omega | exact lEq (by first | rfl | (simp only[BX,dC,ml,aeK,my]<;>omega)) (by first | (simp only[BX,aS,bU,cA,tl,Ps,Hm];done) | (simp only[BX,aS,bU,cA,tl,Ps,Hm];rfl)) h
 · cases q
theorem NJ (M:Mo) (L:List Li) (hl:L.length≤5000) (X:List Nat) (i:Nat) (x:Li) (hx:L[i]? = some x) (hw:uj x) (hX:X.length+(BY x).length≤10000000000000) (o:Out) (h:aU ae env (zD 5 L 65536 (X++BY x).length (bt (X++BY x)) (i+1)) o) :
  aU ae env (zD 5 L 65536 X.length (bt X) i) o:=by
 have bw:aR=70368744177664:=rfl
 have hi:i<L.length:=(dT.1 hx).1
 have c:=aW (z:=3) (enc:=aF) (fun _=>rfl) hx
 have ew:(L.flatMap aF).getD (i*3) .bz = .sc (.int .u32 x.mn):=c 0 (by decide)
 have eD:(L.flatMap aF).getD (i*3+0) .bz = .sc (.int .u32 x.mn):=c 0 (by decide)
 have gq:(L.flatMap aF).getD (i*3+1) .bz = .sc (.int .u32 x.mx):=c 1 (by decide)
 have nk:(L.flatMap aF).getD (i*3+1+1) .bz = .sc (.bool x.cap):=c 2 (by decide)
 have nq:(L.flatMap aF).getD (i*3+2) .bz = .sc (.bool x.cap):=c 2 (by decide)
 have hd:decide ((i:Int)<(L.length:Int))=true:=decide_eq_true (by omega)
 have w:re.wrap ((i:Int)+1)=((i+1:Nat):Int):=by rw[aQ (by omega) (by omega)];rfl
 have hin:aP (i:Int) L.length=true:=by simp only[aP,di,decide_eq_true_eq];omega
 have h4:((5:Int)==4)=false:=by decide
 refine af aH (zA M 5 L 65536 X.length i (bt X) (yC 65536 x) (tr 65536 x).length (bt (tr 65536 x)) (fun n=>(eV n).length) (fun n=>bt (eV n)) (fun n=>(eU n).length) (fun n=>bt (eU n)) (fun s=>(eM s).length) (fun s=>bt (eM s)) x.mn x.mx x.cap) ?_
 simp only[vW,aV,aA.ok,isStr,isInt,aO,isBool,bg,au,bf,an,aD,ak,afm,ajQ,ajX,beq_self_eq_true,akN,hd,hin,w,bW,h4,ew,eD,gq,nk,nq]
 simp only[di,ajp,ajS,bw]
 simp only[BY,dC,ml,aeK,my] at hX
 refine⟨fun _=>⟨fun _=> ?_,fun q=> ?_⟩,fun q=>(by cases q)⟩
 · rename_i q;cases q
 · repeat' first | exact akX | with_reducible refine ags ?_ ?_ | with_reducible exact Gu 65536 x hw | omega | exact lEq (by first | rfl | (simp only[BY,dC,ml,aeK,my]<;>omega)) (by first | (simp only[BY,aS,bU,cA,tl,Ps,Hm];done) | (simp only[BY,aS,bU,cA,tl,Ps,Hm];rfl)) h
end Go.Proofs.YtncncijedmfpjaaGreatDoor.N
end
