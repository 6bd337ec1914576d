import Derived.Test.YtncncijedmfpjaaGreatDoorMQ
open Nat renaming beq→bj,mul_one→ac8,ble_eq→acO,zero_add→pD,beq_eq→fw
open Go.IntKind renaming u32→acu,i64→sa,u8→acQ
open List renaming map→acC,length_append→dT,mem_of_getElem?→oi,map_append→acx,length_cons→od,length_nil→acA,getElem?_eq_some_iff→ee,getElem?_eq_getElem→de,take→acD,drop→adu,drop_of_length_le→adv,length_map→ov,flatMap_cons→ac2,append_assoc→vt,map_nil→vb,flatMap_nil→adx,append_nil→Lk,nil_append→Ps,drop_zero→acw
open Go.Proofs.Tryz renaming prog→ae
open Go.Fn renaming func→acU
open Option renaming none→acH
open Go.Value renaming int→sR
open Bool renaming and_eq_true→dp,and_true→ac7,true_and→ade
open True renaming intro→ads
noncomputable section
section
set_option linter.unusedSimpArgs false
set_option linter.unusedVariables false
namespace Go.Proofs.YtncncijedmfpjaaGreatDoor.N
open Go Go.Am
def ab3 (M:Mo) (g:Nat) (N:Nat) (J:aab) (Q:aac) (f:FuncId) (args:List AV) (m:Mem):Option (AV×Mem):=none
def ab4 (M:Mo) (g:Nat) (N:Nat) (J:aab) (Q:aac) (f:FuncId) (args:List AV) (m:Mem):Option (AV×Mem):=cond (bj f 45) (match args with | [.p (.sc (.int _ n))]=>some (.p (.ps (J n+1) 1 (Q n)),m) | _=>none) none
def ab5 (M:Mo) (g N k i n:Nat) (X Z:List PV) (f:FuncId) (args:List AV) (m:Mem):Option (AV×Mem):=some (.aK [],[.ac [.mp 1 0],.ac (.ms 3 0 (k+n) 1 none::M.aJ.map .p),.dead,.ob (.gb 5) (X.map .p++Z.map .p)])
def ab6 (M:Mo) (g N k i n:Nat) (X Z:List PV):FuncId→Nat→Nat→Option (AV→AV):=cu [(81,7,0,sI .i64 ((i+1:Nat):Int))]
def yc (M:Mo) (k:Nat) (X:List PV) (f:FuncId) (args:List AV) (m:Mem):Option (AV×Mem):=cond (bj f 81) (some (.aK [],m)) none
def yd (M:Mo) (k:Nat) (X:List PV) (f:FuncId) (args:List AV) (m:Mem):Option (AV×Mem):=cond (bj f 81) (some (.aK [],[.ac (.ms 2 0 k 1 none::M.aJ.map .p),.ac [.mp 0 0],.ob (.gb 5) (X.map .p)])) none
def ab7 (M:Mo) (J:aab) (Q:aac) (f:FuncId) (args:List AV) (m:Mem):Option (AV×Mem):=cond (bj f 45) (match args with | [.p (.sc (.int _ n))]=>some (.p (.ps (J n+1) 1 (Q n)),m) | _=>none) none
def Y6 (M:Mo) (d g k:Nat) (X:List PV):FuncId→Nat→Nat→Option (AV→AV):=cu [(18,4,4,.fn (.func g) [.mp 1 0] [])]
def ab8 (M:Mo) (d g k:Nat) (X:List PV) (f:FuncId) (args:List AV) (m:Mem):Option (AV×Mem):=some (.aK [],m)
def ab9 (M:Mo) (d g k:Nat) (X:List PV) (f:FuncId) (args:List AV) (m:Mem):Option (AV×Mem):=some (.aK [],[.ac (.ms 1 0 k 1 none::M.aJ.map .p),.ob (.gb 5) (X.map .p)])
def acd (M:Mo) (d:Int) (e:Int) (k:Nat) (X:List PV) (f:FuncId) (args:List AV) (m:Mem):Option (AV×Mem):=cond (bj f 17) (some (sI .i64 e,m)) (cond (bj f 18) (some (.os none 0 0 [],m)) none)
def Y7 (M:Mo) (d k n:Nat) (X Z:List PV) (J:aab) (Q:aac) (f:FuncId) (args:List AV) (m:Mem):Option (AV×Mem):=cond (bj f 18) (some (.os none 0 0 [],m)) none
def Y8 (M:Mo) (d k n:Nat) (X Z:List PV) (J:aab) (Q:aac) (f:FuncId) (args:List AV) (m:Mem):Option (AV×Mem):=cond (bj f 18) (some (.ms 0 0 (n+1) 1 none,[.ob (.gb 5) (Z.map .p)])) none
def Qu (M:Mo) (d k n:Nat) (X Z:List PV) (J:aab) (Q:aac) (f:FuncId) (args:List AV) (m:Mem):Option (AV×Mem):=cond (bj f 45) (match args with | [.p (.sc (.int _ n))]=>some (.p (.ps (J n) 1 (Q n)),m) | _=>none) none
def Qv (M:Mo) (d k n:Nat) (X Z:List PV) (J:aab) (Q:aac):FuncId→Nat→Nat→Option (AV→AV):=cu [(7,8,1,sI .i64 ((d+1:Nat):Int))]
def U0 (M:Mo) (g:Nat) (N:Nat) (J:aab) (Q:aac):bN:=aP (ab3 M g N J Q) (ab4 M g N J Q) [(81,1)] [(81,0,0)] [(20,0,0)]
def Y9:Sc:= .fin
def Bu (M:Mo) (g:Nat) (N:Nat) (J:aab) (Q:aac):aA:=
 (.test ((↑N:Int)==0)
 (.out (.ret (.aK []) [.ac (fE::mV M),.ac [.mp 0 0]]))
 (.call ⟨45,[sI .u32 (acu.wrap (↑N:Int))],[],.p (.ps (J (acu.wrap (↑N:Int))+1) 1 (Q (acu.wrap (↑N:Int)))),[]⟩
 (.must (((0+(J (acu.wrap (↑N:Int))+1))*1).ble bH&&(0+(J (acu.wrap (↑N:Int))+1)).ble bH&&allBy (acC AV.p (Q (acu.wrap (↑N:Int))))&&true&&true&&true)
 (.must true
 (.at (af ae bF 81 1 [.fn (acU g) [] [.mp 1 0],sI .i64 (↑N:Int),sI .i64 0] ([.ac (.ms 2 0 (0+(J (acu.wrap (↑N:Int))+1)) 1 none::mV M),.ac [.mp 0 0],.ob (dV.gb 5) (acC aj (acC aj (acC aj ([]++acC AV.p (Q (acu.wrap (↑N:Int)))))))]) 2 21))))))
theorem Dq (M:Mo) (g:Nat) (N:Nat) (J:aab) (Q:aac):aG ae bF (U0 M g N J Q) 1000000 81 ([AV.mp 0 0,sI sa (↑N:Int),AV.fn (acU g) [] [AV.mp 1 0]]) ([aN.ac (AV.os acH 0 0 []::mV M),aN.ac [AV.mp 0 0]]) Y9=Bu M g N J Q:=by kernel_rfl
def U1 (M:Mo) (g:Nat) (N:Nat) (k:Nat) (i:Nat) (n:Nat) (X:List PV) (Z:List PV):bN:=gI (ab5 M g N k i n X Z) aC [(81,1)] [(81,0,2)] [] (ab6 M g N k i n X Z)
def Za:Sc:= .fin
def Bv (M:Mo) (g:Nat) (N:Nat) (k:Nat) (i:Nat) (n:Nat) (X:List PV) (Z:List PV):aA:=
 (.test (decide ((↑i:Int)<(↑N:Int)))
 (.call ⟨g,[sI .i64 (↑i:Int),.mp 0 0],[.ac [.mp 1 0],.ac (.ms 2 0 k 1 none::mV M),.ob (dV.gb 5) (acC aj (acC AV.p X))],.aK [],[.ac [.mp 1 0],.ac (.ms 3 0 (k+n) 1 none::mV M),.dead,.ob (dV.gb 5) (acC AV.p X++acC AV.p Z)]⟩
 (.need (sI .i64 (sa.wrap ((↑i:Int)+1))=sI sa (↑(i+1):Int))
 (.at (af ae bF 81 1 [.fn (acU g) [] [.mp 1 0],sI .i64 (↑N:Int),sI .i64 (↑(i+1):Int)] ([.ac (.ms 2 0 (k+n) 1 none::mV M),.ac [.mp 0 0],.ob (dV.gb 5) (acC aj (acC aj (acC AV.p X++acC AV.p Z)))]) 2 21))))
 (.out (.ret (.aK []) [.ac (.ms 2 0 k 1 none::mV M),.ac [.mp 0 0],.ob (dV.gb 5) (acC aj (acC AV.p X))])))
theorem Dr (M:Mo) (g:Nat) (N:Nat) (k:Nat) (i:Nat) (n:Nat) (X:List PV) (Z:List PV):grow ae bF (U1 M g N k i n X Z) 1000000 true (af ae bF 81 1 ([AV.fn (acU g) [] [AV.mp 1 0],sI sa (↑N:Int),sI sa (↑i:Int)]) ([aN.ac (AV.ms 2 0 k 1 acH::mV M),aN.ac [AV.mp 0 0],aN.ob (dV.gb 5) (acC AV.p X)]) 2 21) Za atEnd=Bv M g N k i n X Z:=by kernel_rfl
def Qw (M:Mo) (k:Nat) (X:List PV):bN:=aP (yc M k X) aC [] [] []
def U2:Sc:= .fin
def Ds (M:Mo) (k:Nat) (X:List PV):aA:=
 (.call ⟨81,[.mp 0 0,sI .i64 (↑M.tys.length:Int),.fn (acU 82) [] [.mp 1 0]],[.ac (fE::mV M),.ac [.mp 0 0]],.aK [],[.ac (fE::mV M),.ac [.mp 0 0]]⟩
 (.out (.ret (.aK []) [.ac (fE::mV M)])))
theorem IM (M:Mo) (k:Nat) (X:List PV):aG ae bF (Qw M k X) 1000000 34 ([AV.mp 0 0]) ([aN.ac (AV.os acH 0 0 []::mV M)]) U2=Ds M k X:=by kernel_rfl
def Qx (M:Mo) (k:Nat) (X:List PV):bN:=aP (yd M k X) aC [] [] []
def U3:Sc:= .fin
def Dt (M:Mo) (k:Nat) (X:List PV):aA:=
 (.call ⟨81,[.mp 0 0,sI .i64 (↑M.tys.length:Int),.fn (acU 82) [] [.mp 1 0]],[.ac (fE::mV M),.ac [.mp 0 0]],.aK [],[.ac (.ms 2 0 k 1 none::mV M),.ac [.mp 0 0],.ob (dV.gb 5) (acC AV.p X)]⟩
 (.out (.ret (.aK []) [.ac (.ms 1 0 k 1 none::mV M),.ob (dV.gb 5) (acC aj (acC aj (acC AV.p X)))])))
theorem IN (M:Mo) (k:Nat) (X:List PV):aG ae bF (Qx M k X) 1000000 34 ([AV.mp 0 0]) ([aN.ac (AV.os acH 0 0 []::mV M)]) U3=Dt M k X:=by kernel_rfl
def Qy (M:Mo) (k:Nat) (X:List PV):bN:=aP (yc M k X) aC [] [] []
def U4:Sc:= .fin
def Du (M:Mo) (k:Nat) (X:List PV):aA:=
 (.call ⟨81,[.mp 0 0,sI .i64 (↑M.aZ.length:Int),.fn (acU 84) [] [.mp 1 0]],[.ac (fE::mV M),.ac [.mp 0 0]],.aK [],[.ac (fE::mV M),.ac [.mp 0 0]]⟩
 (.out (.ret (.aK []) [.ac (fE::mV M)])))
theorem IP (M:Mo) (k:Nat) (X:List PV):aG ae bF (Qy M k X) 1000000 35 ([AV.mp 0 0]) ([aN.ac (AV.os acH 0 0 []::mV M)]) U4=Du M k X:=by kernel_rfl
def Qz (M:Mo) (k:Nat) (X:List PV):bN:=aP (yd M k X) aC [] [] []
def U5:Sc:= .fin
def Dv (M:Mo) (k:Nat) (X:List PV):aA:=
 (.call ⟨81,[.mp 0 0,sI .i64 (↑M.aZ.length:Int),.fn (acU 84) [] [.mp 1 0]],[.ac (fE::mV M),.ac [.mp 0 0]],.aK [],[.ac (.ms 2 0 k 1 none::mV M),.ac [.mp 0 0],.ob (dV.gb 5) (acC AV.p X)]⟩
 (.out (.ret (.aK []) [.ac (.ms 1 0 k 1 none::mV M),.ob (dV.gb 5) (acC aj (acC aj (acC AV.p X)))])))
theorem IQ (M:Mo) (k:Nat) (X:List PV):aG ae bF (Qz M k X) 1000000 35 ([AV.mp 0 0]) ([aN.ac (AV.os acH 0 0 []::mV M)]) U5=Dv M k X:=by kernel_rfl
def QA (M:Mo) (k:Nat) (X:List PV):bN:=aP (yc M k X) aC [] [] []
def U6:Sc:= .fin
def Dw (M:Mo) (k:Nat) (X:List PV):aA:=
 (.call ⟨81,[.mp 0 0,sI .i64 (↑M.fns.length:Int),.fn (acU 86) [] [.mp 1 0]],[.ac (fE::mV M),.ac [.mp 0 0]],.aK [],[.ac (fE::mV M),.ac [.mp 0 0]]⟩
 (.out (.ret (.aK []) [.ac (fE::mV M)])))
theorem IS (M:Mo) (k:Nat) (X:List PV):aG ae bF (QA M k X) 1000000 36 ([AV.mp 0 0]) ([aN.ac (AV.os acH 0 0 []::mV M)]) U6=Dw M k X:=by kernel_rfl
def QB (M:Mo) (k:Nat) (X:List PV):bN:=aP (yd M k X) aC [] [] []
def U7:Sc:= .fin
def Dx (M:Mo) (k:Nat) (X:List PV):aA:=
 (.call ⟨81,[.mp 0 0,sI .i64 (↑M.fns.length:Int),.fn (acU 86) [] [.mp 1 0]],[.ac (fE::mV M),.ac [.mp 0 0]],.aK [],[.ac (.ms 2 0 k 1 none::mV M),.ac [.mp 0 0],.ob (dV.gb 5) (acC AV.p X)]⟩
 (.out (.ret (.aK []) [.ac (.ms 1 0 k 1 none::mV M),.ob (dV.gb 5) (acC aj (acC aj (acC AV.p X)))])))
theorem IT (M:Mo) (k:Nat) (X:List PV):aG ae bF (QB M k X) 1000000 36 ([AV.mp 0 0]) ([aN.ac (AV.os acH 0 0 []::mV M)]) U7=Dx M k X:=by kernel_rfl
def QC (M:Mo) (k:Nat) (X:List PV):bN:=aP (yc M k X) aC [] [] []
def U8:Sc:= .fin
def Dy (M:Mo) (k:Nat) (X:List PV):aA:=
 (.call ⟨81,[.mp 0 0,sI .i64 (↑M.dh.length:Int),.fn (acU 87) [] [.mp 1 0]],[.ac (fE::mV M),.ac [.mp 0 0]],.aK [],[.ac (fE::mV M),.ac [.mp 0 0]]⟩
 (.out (.ret (.aK []) [.ac (fE::mV M)])))
theorem IU (M:Mo) (k:Nat) (X:List PV):aG ae bF (QC M k X) 1000000 37 ([AV.mp 0 0]) ([aN.ac (AV.os acH 0 0 []::mV M)]) U8=Dy M k X:=by kernel_rfl
def QD (M:Mo) (k:Nat) (X:List PV):bN:=aP (yd M k X) aC [] [] []
def U9:Sc:= .fin
def Dz (M:Mo) (k:Nat) (X:List PV):aA:=
 (.call ⟨81,[.mp 0 0,sI .i64 (↑M.dh.length:Int),.fn (acU 87) [] [.mp 1 0]],[.ac (fE::mV M),.ac [.mp 0 0]],.aK [],[.ac (.ms 2 0 k 1 none::mV M),.ac [.mp 0 0],.ob (dV.gb 5) (acC AV.p X)]⟩
 (.out (.ret (.aK []) [.ac (.ms 1 0 k 1 none::mV M),.ob (dV.gb 5) (acC aj (acC aj (acC AV.p X)))])))
theorem IV (M:Mo) (k:Nat) (X:List PV):aG ae bF (QD M k X) 1000000 37 ([AV.mp 0 0]) ([aN.ac (AV.os acH 0 0 []::mV M)]) U9=Dz M k X:=by kernel_rfl
def QE (M:Mo) (k:Nat) (X:List PV):bN:=aP (yc M k X) aC [] [] []
def Va:Sc:= .fin
def DA (M:Mo) (k:Nat) (X:List PV):aA:=
 (.call ⟨81,[.mp 0 0,sI .i64 (↑M.dw.length:Int),.fn (acU 89) [] [.mp 1 0]],[.ac (fE::mV M),.ac [.mp 0 0]],.aK [],[.ac (fE::mV M),.ac [.mp 0 0]]⟩
 (.out (.ret (.aK []) [.ac (fE::mV M)])))
theorem IW (M:Mo) (k:Nat) (X:List PV):aG ae bF (QE M k X) 1000000 38 ([AV.mp 0 0]) ([aN.ac (AV.os acH 0 0 []::mV M)]) Va=DA M k X:=by kernel_rfl
def QF (M:Mo) (k:Nat) (X:List PV):bN:=aP (yd M k X) aC [] [] []
def Vb:Sc:= .fin
def DB (M:Mo) (k:Nat) (X:List PV):aA:=
 (.call ⟨81,[.mp 0 0,sI .i64 (↑M.dw.length:Int),.fn (acU 89) [] [.mp 1 0]],[.ac (fE::mV M),.ac [.mp 0 0]],.aK [],[.ac (.ms 2 0 k 1 none::mV M),.ac [.mp 0 0],.ob (dV.gb 5) (acC AV.p X)]⟩
 (.out (.ret (.aK []) [.ac (.ms 1 0 k 1 none::mV M),.ob (dV.gb 5) (acC aj (acC aj (acC AV.p X)))])))
theorem IX (M:Mo) (k:Nat) (X:List PV):aG ae bF (QF M k X) 1000000 38 ([AV.mp 0 0]) ([aN.ac (AV.os acH 0 0 []::mV M)]) Vb=DB M k X:=by kernel_rfl
def QG (M:Mo) (k:Nat) (X:List PV):bN:=aP (yc M k X) aC [] [] []
def Vc:Sc:= .fin
def DC (M:Mo) (k:Nat) (X:List PV):aA:=
 (.call ⟨81,[.mp 0 0,sI .i64 (↑M.gls.length:Int),.fn (acU 90) [] [.mp 1 0]],[.ac (fE::mV M),.ac [.mp 0 0]],.aK [],[.ac (fE::mV M),.ac [.mp 0 0]]⟩
 (.out (.ret (.aK []) [.ac (fE::mV M)])))
theorem IY (M:Mo) (k:Nat) (X:List PV):aG ae bF (QG M k X) 1000000 39 ([AV.mp 0 0]) ([aN.ac (AV.os acH 0 0 []::mV M)]) Vc=DC M k X:=by kernel_rfl
def QH (M:Mo) (k:Nat) (X:List PV):bN:=aP (yd M k X) aC [] [] []
def Vd:Sc:= .fin
def DD (M:Mo) (k:Nat) (X:List PV):aA:=
 (.call ⟨81,[.mp 0 0,sI .i64 (↑M.gls.length:Int),.fn (acU 90) [] [.mp 1 0]],[.ac (fE::mV M),.ac [.mp 0 0]],.aK [],[.ac (.ms 2 0 k 1 none::mV M),.ac [.mp 0 0],.ob (dV.gb 5) (acC AV.p X)]⟩
 (.out (.ret (.aK []) [.ac (.ms 1 0 k 1 none::mV M),.ob (dV.gb 5) (acC aj (acC aj (acC AV.p X)))])))
theorem IZ (M:Mo) (k:Nat) (X:List PV):aG ae bF (QH M k X) 1000000 39 ([AV.mp 0 0]) ([aN.ac (AV.os acH 0 0 []::mV M)]) Vd=DD M k X:=by kernel_rfl
def QI (M:Mo) (k:Nat) (X:List PV):bN:=aP (yc M k X) aC [] [] []
def Ve:Sc:= .fin
def DE (M:Mo) (k:Nat) (X:List PV):aA:=
 (.call ⟨81,[.mp 0 0,sI .i64 (↑M.exs.length:Int),.fn (acU 92) [] [.mp 1 0]],[.ac (fE::mV M),.ac [.mp 0 0]],.aK [],[.ac (fE::mV M),.ac [.mp 0 0]]⟩
 (.out (.ret (.aK []) [.ac (fE::mV M)])))
theorem I0 (M:Mo) (k:Nat) (X:List PV):aG ae bF (QI M k X) 1000000 40 ([AV.mp 0 0]) ([aN.ac (AV.os acH 0 0 []::mV M)]) Ve=DE M k X:=by kernel_rfl
def QJ (M:Mo) (k:Nat) (X:List PV):bN:=aP (yd M k X) aC [] [] []
def Vf:Sc:= .fin
def DF (M:Mo) (k:Nat) (X:List PV):aA:=
 (.call ⟨81,[.mp 0 0,sI .i64 (↑M.exs.length:Int),.fn (acU 92) [] [.mp 1 0]],[.ac (fE::mV M),.ac [.mp 0 0]],.aK [],[.ac (.ms 2 0 k 1 none::mV M),.ac [.mp 0 0],.ob (dV.gb 5) (acC AV.p X)]⟩
 (.out (.ret (.aK []) [.ac (.ms 1 0 k 1 none::mV M),.ob (dV.gb 5) (acC aj (acC aj (acC AV.p X)))])))
theorem I1 (M:Mo) (k:Nat) (X:List PV):aG ae bF (QJ M k X) 1000000 40 ([AV.mp 0 0]) ([aN.ac (AV.os acH 0 0 []::mV M)]) Vf=DF M k X:=by kernel_rfl
def QK (M:Mo) (k:Nat) (X:List PV):bN:=aP (yc M k X) aC [] [] []
def Vg:Sc:= .fin
def DG (M:Mo) (k:Nat) (X:List PV):aA:=
 (.call ⟨81,[.mp 0 0,sI .i64 (↑M.els.length:Int),.fn (acU 93) [] [.mp 1 0]],[.ac (fE::mV M),.ac [.mp 0 0]],.aK [],[.ac (fE::mV M),.ac [.mp 0 0]]⟩
 (.out (.ret (.aK []) [.ac (fE::mV M)])))
theorem I2 (M:Mo) (k:Nat) (X:List PV):aG ae bF (QK M k X) 1000000 42 ([AV.mp 0 0]) ([aN.ac (AV.os acH 0 0 []::mV M)]) Vg=DG M k X:=by kernel_rfl
def QL (M:Mo) (k:Nat) (X:List PV):bN:=aP (yd M k X) aC [] [] []
def Vh:Sc:= .fin
def DH (M:Mo) (k:Nat) (X:List PV):aA:=
 (.call ⟨81,[.mp 0 0,sI .i64 (↑M.els.length:Int),.fn (acU 93) [] [.mp 1 0]],[.ac (fE::mV M),.ac [.mp 0 0]],.aK [],[.ac (.ms 2 0 k 1 none::mV M),.ac [.mp 0 0],.ob (dV.gb 5) (acC AV.p X)]⟩
 (.out (.ret (.aK []) [.ac (.ms 1 0 k 1 none::mV M),.ob (dV.gb 5) (acC aj (acC aj (acC AV.p X)))])))
theorem I3 (M:Mo) (k:Nat) (X:List PV):aG ae bF (QL M k X) 1000000 42 ([AV.mp 0 0]) ([aN.ac (AV.os acH 0 0 []::mV M)]) Vh=DH M k X:=by kernel_rfl
def QM (M:Mo) (k:Nat) (X:List PV):bN:=aP (yc M k X) aC [] [] []
def Vi:Sc:= .fin
def DI (M:Mo) (k:Nat) (X:List PV):aA:=
 (.call ⟨81,[.mp 0 0,sI .i64 (↑M.fns.length:Int),.fn (acU 94) [] [.mp 1 0]],[.ac (fE::mV M),.ac [.mp 0 0]],.aK [],[.ac (fE::mV M),.ac [.mp 0 0]]⟩
 (.out (.ret (.aK []) [.ac (fE::mV M)])))
theorem I4 (M:Mo) (k:Nat) (X:List PV):aG ae bF (QM M k X) 1000000 43 ([AV.mp 0 0]) ([aN.ac (AV.os acH 0 0 []::mV M)]) Vi=DI M k X:=by kernel_rfl
def QO (M:Mo) (k:Nat) (X:List PV):bN:=aP (yd M k X) aC [] [] []
def Vj:Sc:= .fin
def DJ (M:Mo) (k:Nat) (X:List PV):aA:=
 (.call ⟨81,[.mp 0 0,sI .i64 (↑M.fns.length:Int),.fn (acU 94) [] [.mp 1 0]],[.ac (fE::mV M),.ac [.mp 0 0]],.aK [],[.ac (.ms 2 0 k 1 none::mV M),.ac [.mp 0 0],.ob (dV.gb 5) (acC AV.p X)]⟩
 (.out (.ret (.aK []) [.ac (.ms 1 0 k 1 none::mV M),.ob (dV.gb 5) (acC aj (acC aj (acC AV.p X)))])))
theorem I5 (M:Mo) (k:Nat) (X:List PV):aG ae bF (QO M k X) 1000000 43 ([AV.mp 0 0]) ([aN.ac (AV.os acH 0 0 []::mV M)]) Vj=DJ M k X:=by kernel_rfl
def QS (M:Mo) (k:Nat) (X:List PV):bN:=aP (yc M k X) aC [] [] []
def Vk:Sc:= .fin
def DK (M:Mo) (k:Nat) (X:List PV):aA:=
 (.call ⟨81,[.mp 0 0,sI .i64 (↑M.aY.length:Int),.fn (acU 96) [] [.mp 1 0]],[.ac (fE::mV M),.ac [.mp 0 0]],.aK [],[.ac (fE::mV M),.ac [.mp 0 0]]⟩
 (.out (.ret (.aK []) [.ac (fE::mV M)])))
theorem I6 (M:Mo) (k:Nat) (X:List PV):aG ae bF (QS M k X) 1000000 44 ([AV.mp 0 0]) ([aN.ac (AV.os acH 0 0 []::mV M)]) Vk=DK M k X:=by kernel_rfl
def QT (M:Mo) (k:Nat) (X:List PV):bN:=aP (yd M k X) aC [] [] []
def Vl:Sc:= .fin
def DL (M:Mo) (k:Nat) (X:List PV):aA:=
 (.call ⟨81,[.mp 0 0,sI .i64 (↑M.aY.length:Int),.fn (acU 96) [] [.mp 1 0]],[.ac (fE::mV M),.ac [.mp 0 0]],.aK [],[.ac (.ms 2 0 k 1 none::mV M),.ac [.mp 0 0],.ob (dV.gb 5) (acC AV.p X)]⟩
 (.out (.ret (.aK []) [.ac (.ms 1 0 k 1 none::mV M),.ob (dV.gb 5) (acC aj (acC aj (acC AV.p X)))])))
theorem I7 (M:Mo) (k:Nat) (X:List PV):aG ae bF (QT M k X) 1000000 44 ([AV.mp 0 0]) ([aN.ac (AV.os acH 0 0 []::mV M)]) Vl=DL M k X:=by kernel_rfl
def Vm (M:Mo) (J:aab) (Q:aac):bN:=aP aF (ab7 M J Q) [] [(41,0,0)] [(20,0,0)]
def Zb:Sc:= .fin
def Bw (M:Mo) (J:aab) (Q:aac):aA:=
 (.test (M.st)
 (.call ⟨45,[sI .u32 M.sn],[],.p (.ps (J M.sn+1) 1 (Q M.sn)),[]⟩
 (.must (((0+(J M.sn+1))*1).ble bH&&(0+(J M.sn+1)).ble bH&&allBy (acC AV.p (Q M.sn))&&true&&true&&true)
 (.must true
 (.out (.ret (.aK []) [.ac (.ms 1 0 (0+(J M.sn+1)) 1 none::mV M),.ob (dV.gb 5) (acC aj (acC aj (acC aj ([]++acC AV.p (Q M.sn)))))])))))
 (.out (.ret (.aK []) [.ac (fE::mV M)])))
theorem DM (M:Mo) (J:aab) (Q:aac):aG ae bF (Vm M J Q) 1000000 41 ([AV.mp 0 0]) ([aN.ac (AV.os acH 0 0 []::mV M)]) Zb=Bw M J Q:=by kernel_rfl
def Vn (M:Mo) (d:Nat) (g:Nat) (k:Nat) (X:List PV):bN:=gI (ab8 M d g k X) aC [] [] [(18,4,3),(18,4,4)] (Y6 M d g k X)
def Zc:Sc:= .fin
def gk (M:Mo) (d:Nat) (g:Nat) (k:Nat) (X:List PV):aA:=
 (.must (aM (sa.wrap ((↑d:Int)-1)) 11&&true&&true)
 (.must ((0+(sa.wrap ((↑d:Int)-1)).toNat*1+1).ble 11&&(gX (ae.underlying 1) ([.fn (acU 34) [.mp 1 0] [],.fn (acU 35) [.mp 1 0] [],.fn (acU 36) [.mp 1 0] [],.fn (acU 37) [.mp 1 0] [],.fn (acU 38) [.mp 1 0] [],.fn (acU 39) [.mp 1 0] [],.fn (acU 40) [.mp 1 0] [],.fn (acU 41) [.mp 1 0] [],.fn (acU 42) [.mp 1 0] [],.fn (acU 43) [.mp 1 0] [],.fn (acU 44) [.mp 1 0] []].getD (0+(sa.wrap ((↑d:Int)-1)).toNat*1) .aT)).snd&&true)
 (.need (((gX (ae.underlying 1) ([AV.fn (acU 34) [AV.mp 1 0] [],AV.fn (acU 35) [AV.mp 1 0] [],AV.fn (acU 36) [AV.mp 1 0] [],AV.fn (acU 37) [AV.mp 1 0] [],AV.fn (acU 38) [AV.mp 1 0] [],AV.fn (acU 39) [AV.mp 1 0] [],AV.fn (acU 40) [AV.mp 1 0] [],AV.fn (acU 41) [AV.mp 1 0] [],AV.fn (acU 42) [AV.mp 1 0] [],AV.fn (acU 43) [AV.mp 1 0] [],AV.fn (acU 44) [AV.mp 1 0] []].getD (0+(sa.wrap ((↑d:Int)-1)).toNat*1) AV.aT)).fst,(0+(sa.wrap ((↑d:Int)-1)).toNat*1+1).ble 11&&(gX (ae.underlying 1) ([AV.fn (acU 34) [AV.mp 1 0] [],AV.fn (acU 35) [AV.mp 1 0] [],AV.fn (acU 36) [AV.mp 1 0] [],AV.fn (acU 37) [AV.mp 1 0] [],AV.fn (acU 38) [AV.mp 1 0] [],AV.fn (acU 39) [AV.mp 1 0] [],AV.fn (acU 40) [AV.mp 1 0] [],AV.fn (acU 41) [AV.mp 1 0] [],AV.fn (acU 42) [AV.mp 1 0] [],AV.fn (acU 43) [AV.mp 1 0] [],AV.fn (acU 44) [AV.mp 1 0] []].getD (0+(sa.wrap ((↑d:Int)-1)).toNat*1) AV.aT)).snd).fst=AV.fn (acU g) [AV.mp 1 0] [])
 (.call ⟨g,[.mp 0 0],[.ac (fE::mV M)],.aK [],[.ac (fE::mV M)]⟩
 (.out (.ret (fE) []))))))
theorem fI (M:Mo) (d:Nat) (g:Nat) (k:Nat) (X:List PV):aG ae bF (Vn M d g k X) 1000000 18 ([AV.agg (mV M),sI sa (↑d:Int)]) ([]) Zc=gk M d g k X:=by kernel_rfl
def Vo (M:Mo) (d:Nat) (g:Nat) (k:Nat) (X:List PV):bN:=gI (ab9 M d g k X) aC [] [] [(18,4,3),(18,4,4)] (Y6 M d g k X)
def Zd:Sc:= .fin
def gm (M:Mo) (d:Nat) (g:Nat) (k:Nat) (X:List PV):aA:=
 (.must (aM (sa.wrap ((↑d:Int)-1)) 11&&true&&true)
 (.must ((0+(sa.wrap ((↑d:Int)-1)).toNat*1+1).ble 11&&(gX (ae.underlying 1) ([.fn (acU 34) [.mp 1 0] [],.fn (acU 35) [.mp 1 0] [],.fn (acU 36) [.mp 1 0] [],.fn (acU 37) [.mp 1 0] [],.fn (acU 38) [.mp 1 0] [],.fn (acU 39) [.mp 1 0] [],.fn (acU 40) [.mp 1 0] [],.fn (acU 41) [.mp 1 0] [],.fn (acU 42) [.mp 1 0] [],.fn (acU 43) [.mp 1 0] [],.fn (acU 44) [.mp 1 0] []].getD (0+(sa.wrap ((↑d:Int)-1)).toNat*1) .aT)).snd&&true)
 (.need (((gX (ae.underlying 1) ([AV.fn (acU 34) [AV.mp 1 0] [],AV.fn (acU 35) [AV.mp 1 0] [],AV.fn (acU 36) [AV.mp 1 0] [],AV.fn (acU 37) [AV.mp 1 0] [],AV.fn (acU 38) [AV.mp 1 0] [],AV.fn (acU 39) [AV.mp 1 0] [],AV.fn (acU 40) [AV.mp 1 0] [],AV.fn (acU 41) [AV.mp 1 0] [],AV.fn (acU 42) [AV.mp 1 0] [],AV.fn (acU 43) [AV.mp 1 0] [],AV.fn (acU 44) [AV.mp 1 0] []].getD (0+(sa.wrap ((↑d:Int)-1)).toNat*1) AV.aT)).fst,(0+(sa.wrap ((↑d:Int)-1)).toNat*1+1).ble 11&&(gX (ae.underlying 1) ([AV.fn (acU 34) [AV.mp 1 0] [],AV.fn (acU 35) [AV.mp 1 0] [],AV.fn (acU 36) [AV.mp 1 0] [],AV.fn (acU 37) [AV.mp 1 0] [],AV.fn (acU 38) [AV.mp 1 0] [],AV.fn (acU 39) [AV.mp 1 0] [],AV.fn (acU 40) [AV.mp 1 0] [],AV.fn (acU 41) [AV.mp 1 0] [],AV.fn (acU 42) [AV.mp 1 0] [],AV.fn (acU 43) [AV.mp 1 0] [],AV.fn (acU 44) [AV.mp 1 0] []].getD (0+(sa.wrap ((↑d:Int)-1)).toNat*1) AV.aT)).snd).fst=AV.fn (acU g) [AV.mp 1 0] [])
 (.call ⟨g,[.mp 0 0],[.ac (fE::mV M)],.aK [],[.ac (.ms 1 0 k 1 none::mV M),.ob (dV.gb 5) (acC AV.p X)]⟩
 (.out (.ret (.ms 0 0 k 1 none) [.ob (dV.gb 5) (acC aj (acC aj (acC AV.p X)))]))))))
theorem fJ (M:Mo) (d:Nat) (g:Nat) (k:Nat) (X:List PV):aG ae bF (Vo M d g k X) 1000000 18 ([AV.agg (mV M),sI sa (↑d:Int)]) ([]) Zd=gm M d g k X:=by kernel_rfl
def Vp (M:Mo) (d e:Int) (k:Nat) (X:List PV):bN:=aP (acd M d e k X) aC [(7,1)] [(7,0,0)] []
def Ze:Sc:= .fin
def qF (M:Mo) (d e:Int) (k:Nat) (X:List PV):aA:=
 (.call ⟨17,[.agg (acC AV.p M.aJ)],[],sI .i64 e,[]⟩
 (.test (e != 0)
 (.out (.ret (.aK [fE,sI .i64 e]) []))
 (.at (af ae bF 7 1 [.mp 0 0,.mp 1 0,sI .i64 1] ([.pc M.aJ,.ac [.os none 8 1 [.sc (.int .u8 0),.sc (.int .u8 97),.sc (.int .u8 115),.sc (.int .u8 109),.sc (.int .u8 1),.sc (.int .u8 0),.sc (.int .u8 0),.sc (.int .u8 0)]]]) 0 38))))
theorem qG (M:Mo) (d e:Int) (k:Nat) (X:List PV):aG ae bF (Vp M d e k X) 1000000 7 ([AV.agg (mV M)]) ([]) Ze=qF M d e k X:=by kernel_rfl
def QU (M:Mo) (d:Nat) (k:Nat) (n:Nat) (X:List PV) (Z:List PV) (J:aab) (Q:aac):bN:=gI (Y7 M d k n X Z J Q) (Qu M d k n X Z J Q) [(7,1)] [(7,0,2)] [] (Qv M d k n X Z J Q)
def Vq:Sc:= .fin
def qH (M:Mo) (d:Nat) (k:Nat) (n:Nat) (X:List PV) (Z:List PV) (J:aab) (Q:aac):aA:=
 (.test (decide ((↑d:Int)≤11))
 (.call ⟨18,[.agg (acC AV.p M.aJ),sI .i64 (↑d:Int)],[],fE,[]⟩
 (.need (sI .i64 (sa.wrap ((↑d:Int)+1))=sI sa (↑(d+1):Int))
 (.at (af ae bF 7 1 [.mp 0 0,.mp 1 0,sI .i64 (↑(d+1):Int)] ([.pc M.aJ,.ac [.os none 8 1 [.sc (.int .u8 0),.sc (.int .u8 97),.sc (.int .u8 115),.sc (.int .u8 109),.sc (.int .u8 1),.sc (.int .u8 0),.sc (.int .u8 0),.sc (.int .u8 0)]]]) 0 38))))
 (.out (.ret (.aK [.os none 8 1 [.sc (.int .u8 0),.sc (.int .u8 97),.sc (.int .u8 115),.sc (.int .u8 109),.sc (.int .u8 1),.sc (.int .u8 0),.sc (.int .u8 0),.sc (.int .u8 0)],sI .i64 0]) [])))
theorem rY (M:Mo) (d:Nat) (k:Nat) (n:Nat) (X:List PV) (Z:List PV) (J:aab) (Q:aac):grow ae bF (QU M d k n X Z J Q) 1000000 true (af ae bF 7 1 ([AV.mp 0 0,AV.mp 1 0,sI sa (↑d:Int)]) ([aN.pc M.aJ,aN.ac [AV.os acH 8 1 [PV.sc (sR acQ 0),PV.sc (sR acQ 97),PV.sc (sR acQ 115),PV.sc (sR acQ 109),PV.sc (sR acQ 1),PV.sc (sR acQ 0),PV.sc (sR acQ 0),PV.sc (sR acQ 0)]]]) 0 38) Vq atEnd=qH M d k n X Z J Q:=by kernel_rfl
def QV (M:Mo) (d:Nat) (k:Nat) (n:Nat) (X:List PV) (Z:List PV) (J:aab) (Q:aac):bN:=gI (Y8 M d k n X Z J Q) (Qu M d k n X Z J Q) [(7,1)] [(7,0,2),(7,0,3)] [(20,0,0),(19,1,5)] (Qv M d k n X Z J Q)
def Vr:Sc:= .fin
def DN (M:Mo) (d:Nat) (k:Nat) (n:Nat) (X:List PV) (Z:List PV) (J:aab) (Q:aac):aA:=
 (.test (decide ((↑d:Int)≤11))
 (.call ⟨18,[.agg (acC AV.p M.aJ),sI .i64 (↑d:Int)],[],.ms 0 0 (n+1) 1 none,[.ob (dV.gb 5) (acC AV.p Z)]⟩
 (.test (decide ((↑(n+1):Int)>0))
 (.must true
 (.call ⟨45,[sI .u32 (acu.wrap (↑(n+1):Int))],[],.p (.ps (J (acu.wrap (↑(n+1):Int))) 1 (Q (acu.wrap (↑(n+1):Int)))),[]⟩
 (.must (((9+J (acu.wrap (↑(n+1):Int)))*1).ble bH&&(9+J (acu.wrap (↑(n+1):Int))).ble bH&&allBy (acC AV.p (Q (acu.wrap (↑(n+1):Int))))&&true&&true&&true)
 (.must true
 (.must (oG (acD ((n+1)*1) (adu 0 (acC aj (acC aj (acC AV.p Z)))))&&(0+(n+1)*1).ble (acC aj (acC aj (acC AV.p Z))).length&&(((9+J (acu.wrap (↑(n+1):Int))+(n+1))*1).ble bH&&(9+J (acu.wrap (↑(n+1):Int))+(n+1)).ble bH)&&(((9+J (acu.wrap (↑(n+1):Int)))*1).beq (sI .u8 0::sI .u8 97::sI .u8 115::sI .u8 109::sI .u8 1::sI .u8 0::sI .u8 0::sI .u8 0::sI .u8 (acQ.wrap (↑d:Int))::acC aj (acC aj (acC aj ([].append (acC AV.p (Q (acu.wrap (↑(n+1):Int)))))))).length&&allBy (acC AV.p (acC qW (acD ((n+1)*1) (adu 0 (acC aj (acC aj (acC AV.p Z))))))))&&true)
 (.need (sI .i64 (sa.wrap ((↑d:Int)+1))=sI sa (↑(d+1):Int))
 (.at (af ae bF 7 1 [.mp 0 0,.mp 1 0,sI .i64 (↑(d+1):Int)] ([.pc M.aJ,.ac [.ms 2 0 (9+J (acu.wrap (↑(n+1):Int))+(n+1)) 1 none],.ob (dV.gb 5) (sI .u8 0::sI .u8 97::sI .u8 115::sI .u8 109::sI .u8 1::sI .u8 0::sI .u8 0::sI .u8 0::sI .u8 (acQ.wrap (↑d:Int))::acC aj (acC aj (acC aj ((acC aj (acC aj (acC aj ([].append (acC AV.p (Q (acu.wrap (↑(n+1):Int)))))))).append (acC AV.p (acC qW (acD ((n+1)*1) (adu 0 (acC aj (acC aj (acC AV.p Z)))))))))))]) 0 38))))))))
 (.need (sI .i64 (sa.wrap ((↑d:Int)+1))=sI sa (↑(d+1):Int))
 (.at (af ae bF 7 1 [.mp 0 0,.mp 1 0,sI .i64 (↑(d+1):Int)] ([.pc M.aJ,.ac [.os none 8 1 [.sc (.int .u8 0),.sc (.int .u8 97),.sc (.int .u8 115),.sc (.int .u8 109),.sc (.int .u8 1),.sc (.int .u8 0),.sc (.int .u8 0),.sc (.int .u8 0)]]]) 0 38)))))
 (.out (.ret (.aK [.os none 8 1 [.sc (.int .u8 0),.sc (.int .u8 97),.sc (.int .u8 115),.sc (.int .u8 109),.sc (.int .u8 1),.sc (.int .u8 0),.sc (.int .u8 0),.sc (.int .u8 0)],sI .i64 0]) [])))
theorem I8 (M:Mo) (d:Nat) (k:Nat) (n:Nat) (X:List PV) (Z:List PV) (J:aab) (Q:aac):grow ae bF (QV M d k n X Z J Q) 1000000 true (af ae bF 7 1 ([AV.mp 0 0,AV.mp 1 0,sI sa (↑d:Int)]) ([aN.pc M.aJ,aN.ac [AV.os acH 8 1 [PV.sc (sR acQ 0),PV.sc (sR acQ 97),PV.sc (sR acQ 115),PV.sc (sR acQ 109),PV.sc (sR acQ 1),PV.sc (sR acQ 0),PV.sc (sR acQ 0),PV.sc (sR acQ 0)]]]) 0 38) Vr atEnd=DN M d k n X Z J Q:=by kernel_rfl
def QW (M:Mo) (d:Nat) (k:Nat) (n:Nat) (X:List PV) (Z:List PV) (J:aab) (Q:aac):bN:=gI (Y7 M d k n X Z J Q) (Qu M d k n X Z J Q) [(7,1)] [(7,0,2),(7,0,4)] [] (Qv M d k n X Z J Q)
def Vs:Sc:= .fin
def wY (M:Mo) (d:Nat) (k:Nat) (n:Nat) (X:List PV) (Z:List PV) (J:aab) (Q:aac):aA:=
 (.test (decide ((↑d:Int)≤11))
 (.call ⟨18,[.agg (acC AV.p M.aJ),sI .i64 (↑d:Int)],[],fE,[]⟩
 (.need (sI .i64 (sa.wrap ((↑d:Int)+1))=sI sa (↑(d+1):Int))
 (.at (af ae bF 7 1 [.mp 0 0,.mp 1 0,sI .i64 (↑(d+1):Int)] ([.pc M.aJ,.ac [.ms 2 0 k 1 none],.ob (dV.gb 5) (acC aj (acC AV.p X))]) 0 38))))
 (.test (decide ((↑k:Int)>1048576))
 (.out (.ret (.aK [fE,sI .i64 3]) []))
 (.out (.ret (.aK [.ms 0 0 k 1 none,sI .i64 0]) [.ob (dV.gb 5) (acC aj (acC AV.p X))]))))
theorem zY (M:Mo) (d:Nat) (k:Nat) (n:Nat) (X:List PV) (Z:List PV) (J:aab) (Q:aac):grow ae bF (QW M d k n X Z J Q) 1000000 true (af ae bF 7 1 ([AV.mp 0 0,AV.mp 1 0,sI sa (↑d:Int)]) ([aN.pc M.aJ,aN.ac [AV.ms 2 0 k 1 acH],aN.ob (dV.gb 5) (acC AV.p X)]) 0 38) Vs atEnd=wY M d k n X Z J Q:=by kernel_rfl
def QX (M:Mo) (d:Nat) (k:Nat) (n:Nat) (X:List PV) (Z:List PV) (J:aab) (Q:aac):bN:=gI (Y8 M d k n X Z J Q) (Qu M d k n X Z J Q) [(7,1)] [(7,0,2),(7,0,3),(7,0,4)] [(19,1,5),(20,0,0)] (Qv M d k n X Z J Q)
def Vt:Sc:= .fin
def DO (M:Mo) (d:Nat) (k:Nat) (n:Nat) (X:List PV) (Z:List PV) (J:aab) (Q:aac):aA:=
 (.test (decide ((↑d:Int)≤11))
 (.call ⟨18,[.agg (acC AV.p M.aJ),sI .i64 (↑d:Int)],[],.ms 0 0 (n+1) 1 none,[.ob (dV.gb 5) (acC AV.p Z)]⟩
 (.test (decide ((↑(n+1):Int)>0))
 (.must (((k+1)*1).ble bH&&(k+1).ble bH&&((k*1).beq (acC aj (acC AV.p X)).length&&true)&&true)
 (.call ⟨45,[sI .u32 (acu.wrap (↑(n+1):Int))],[],.p (.ps (J (acu.wrap (↑(n+1):Int))) 1 (Q (acu.wrap (↑(n+1):Int)))),[]⟩
 (.must (((k+1+J (acu.wrap (↑(n+1):Int)))*1).ble bH&&(k+1+J (acu.wrap (↑(n+1):Int))).ble bH&&(((k+1)*1).beq (acC aj (acC aj (acC aj (acC aj (acC AV.p X)++[sI .u8 (acQ.wrap (↑d:Int))])))).length&&allBy (acC AV.p (Q (acu.wrap (↑(n+1):Int)))))&&true&&true&&true)
 (.must true
 (.must (oG (acD ((n+1)*1) (adu 0 (acC aj (acC aj (acC AV.p Z)))))&&(0+(n+1)*1).ble (acC aj (acC aj (acC AV.p Z))).length&&(((k+1+J (acu.wrap (↑(n+1):Int))+(n+1))*1).ble bH&&(k+1+J (acu.wrap (↑(n+1):Int))+(n+1)).ble bH)&&(((k+1+J (acu.wrap (↑(n+1):Int)))*1).beq (acC aj (acC aj (acC aj (acC aj (acC aj (acC aj (acC aj (acC AV.p X)++[sI .u8 (acQ.wrap (↑d:Int))])))++acC AV.p (Q (acu.wrap (↑(n+1):Int))))))).length&&allBy (acC AV.p (acC qW (acD ((n+1)*1) (adu 0 (acC aj (acC aj (acC AV.p Z))))))))&&true)
 (.need (sI .i64 (sa.wrap ((↑d:Int)+1))=sI sa (↑(d+1):Int))
 (.at (af ae bF 7 1 [.mp 0 0,.mp 1 0,sI .i64 (↑(d+1):Int)] ([.pc M.aJ,.ac [.ms 2 0 (k+1+J (acu.wrap (↑(n+1):Int))+(n+1)) 1 none],.ob (dV.gb 5) (acC aj (acC aj (acC aj (acC aj (acC aj (acC aj (acC aj (acC aj (acC aj (acC aj (acC AV.p X)++[sI .u8 (acQ.wrap (↑d:Int))])))++acC AV.p (Q (acu.wrap (↑(n+1):Int))))))++acC AV.p (acC qW (acD ((n+1)*1) (adu 0 (acC aj (acC aj (acC AV.p Z))))))))))]) 0 38))))))))
 (.need (sI .i64 (sa.wrap ((↑d:Int)+1))=sI sa (↑(d+1):Int))
 (.at (af ae bF 7 1 [.mp 0 0,.mp 1 0,sI .i64 (↑(d+1):Int)] ([.pc M.aJ,.ac [.ms 2 0 k 1 none],.ob (dV.gb 5) (acC aj (acC AV.p X))]) 0 38)))))
 (.test (decide ((↑k:Int)>1048576))
 (.out (.ret (.aK [fE,sI .i64 3]) []))
 (.out (.ret (.aK [.ms 0 0 k 1 none,sI .i64 0]) [.ob (dV.gb 5) (acC aj (acC AV.p X))]))))
theorem I9 (M:Mo) (d:Nat) (k:Nat) (n:Nat) (X:List PV) (Z:List PV) (J:aab) (Q:aac):grow ae bF (QX M d k n X Z J Q) 1000000 true (af ae bF 7 1 ([AV.mp 0 0,AV.mp 1 0,sI sa (↑d:Int)]) ([aN.pc M.aJ,aN.ac [AV.ms 2 0 k 1 acH],aN.ob (dV.gb 5) (acC AV.p X)]) 0 38) Vt atEnd=DO M d k n X Z J Q:=by kernel_rfl
theorem Bx {α:Type} {e:α→List Nat} {l:List α} {i:Nat} {x:α} (h:l[i]? = some x):(l.drop i).flatMap e=e x++(l.drop (i+1)).flatMap e:=by
 obtain⟨hi,rfl⟩:=ee.1 h
 rw[List.drop_eq_getElem_cons hi,ac2]
noncomputable abbrev Nr (M:Mo) (fs:List Int) (j k:Nat) (L:List AV):cg:=af ae bF 93 0 [.mp 0 0,.p (.ps fs.length 1 (bU .u32 fs)),sI .i64 fs.length,sI .i64 j] [.ac [.mp 1 0],.ac (.ms 3 0 k 1 none::mV M),.dead,.ob (.gb 5) L] 3 46
theorem Zf {M:Mo} {fs:List Int} {j k:Nat} {L:List AV} {o:Out} {X:List Nat} (hk:k=X.length) (hL:L=(bt X).map .p) (h:bD ae bF (Nr M fs j X.length ((bt X).map .p)) o):bD ae bF (Nr M fs j k L) o:=by subst hk;subst hL;exact h
theorem Vu (M:Mo) (fs:List Int) (hf:fs.length≤1000000) (hu : ∀t∈fs,0≤t∧t<4294967296) : ∀(r j:Nat) (X:List Nat),j+r=fs.length→X.length+5*r≤20000000000000 →
  bD ae bF (Nr M fs j X.length ((bt X).map .p)) (.ret (.aK []) [.ac [.mp 1 0],wB M 3 (X++(fs.drop j).flatMap eU).length,.dead,gB (X++(fs.drop j).flatMap eU)]):=by
 have ct:bH=70368744177664:=rfl
 intro r
 induction r with
 |zero=>
  intro j X hj hX
  have hd:decide ((j:Int)<(fs.length:Int))=false:=decide_eq_false (by omega)
  refine ah aI (G8 M X.length j (bt X) jU qU fs 0) ?_
  simp only[FB,bu,aA.ok,hd,aX]
  refine⟨fun q=>(by cases q),fun _=> ?_⟩
  rw[adv (by omega),adx,Lk]
 |succ r ih=>
  intro j X hj hX
  have hjl:j<fs.length:=by omega
  have hg:fs[j]? = some fs[j]:=de hjl
  have hd:decide ((j:Int)<(fs.length:Int))=true:=decide_eq_true (by omega)
  have hin:aM (j:Int) fs.length=true:=by simp only[aM,dp,decide_eq_true_eq];omega
  have hc:=Gw hjl
  have w:sa.wrap ((j:Int)+1)=((j+1:Nat):Int):=by rw[bA (by omega) (by omega)];rfl
  have hl:=iz fs[j]
  refine ah aI (G8 M X.length j (bt X) jU qU fs fs[j]) ?_
  simp only[FB,bu,aA.ok,hd,hin,hc,w,isInt,aq,Int.toNat_natCast,ac7,ade,beq_self_eq_true,aX,acx,allBy_append,cX,gy,gR,jg]
  simp only[dp,acO,fw,ov,bz,dT,ac8,ct]
  refine⟨fun _=>⟨trivial,trivial,trivial,au.xz (gS (hu _ (List.getElem_mem hjl))),⟨by omega,trivial⟩,trivial,trivial,?_⟩,fun q=>(by cases q)⟩
  have k:=ih (j+1) (X++eU fs[j]) (by omega) (by rw[dT];omega)
  rw[vt X,←Bx hg,show(X++(fs.drop j).flatMap eU).length=X.length+((fs.drop j).flatMap eU).length from dT] at k
  exact Zf (by rw[dT]) (by rw[bn,acx]) k
set_option maxHeartbeats 1000000 in
theorem QY (M:Mo) (i:Nat) (x:El) (hx:M.els[i]? = some x) (hw:sV x.l) (hc:cZ x.l≤1000000) (hf:x.fs.length≤1000000) (hu : ∀t∈x.fs,0≤t∧t<4294967296):Item M 93 i (JL x):=by
 intro X hX
 have ct:bH=70368744177664:=rfl
 have hi:i<M.els.length:=(ee.1 hx).1
 have c:=aU (z:=2) (enc:=aW) (fun _=>rfl) hx
 have Bs:(M.els.flatMap aW).getD (i*2) .bk=pL x.l:=c 0 (by decide)
 have Bt:(M.els.flatMap aW).getD (i*2+1) .bk=pT .u32 x.fs:=c 1 (by decide)
 have hin:aM (i:Int) M.els.length=true:=by simp only[aM,dp,decide_eq_true_eq];omega
 have l1:=rV hc
 have l2:=iz (acu.wrap (x.fs.length:Int))
 have hX':X.length≤10000000000000:=by omega
 refine aa aI (Qh M X.length i (bt X) jU qU x.l x.fs (dg gw x.l) (pz x.l).length (bt (pz x.l))) ?_
 simp only[Nl,bu,aA.ok,aQ,az,aR,an,Int.toNat_natCast,ac7,ade,beq_self_eq_true,Bool.and_self,aX,acx,je,List.map_cons,vb,allBy_append,cX,gy,mq,hin,gR,jg,Bs,Bt]
 simp only[dp,acO,fw,ov,bz,dT,od,acA,ac8,ct]
 refine⟨trivial,trivial,trivial,⟨by omega,trivial⟩,au.xz (ue hw hc),⟨by omega,trivial⟩,au.xz (gS (fH _)),⟨by omega,trivial⟩,trivial,?_⟩
 have k:=Vu M x.fs hf hu x.fs.length 0 (X++[0]++pz x.l++eV x.fs.length) (by omega) (by simp only[dT,od,acA,eV];omega)
 rw[acw,show X++[0]++pz x.l++eV x.fs.length++x.fs.flatMap eU=X++JL x by simp[JL],show(X++JL x).length=X.length+(JL x).length from dT] at k
 have e0:acC AV.p (bt X)++[sI .u8 0]++acC AV.p (bt (pz x.l))++acC AV.p (bt (eU (acu.wrap (x.fs.length:Int))))=acC AV.p (bt (X++[0]++pz x.l++eV x.fs.length)):=by
  rw[bn,bn,bn,acx,acx,acx];rfl
 rw[e0]
 exact bD.XH (by kernel_rfl) (Zf (X:=X++[0]++pz x.l++eV x.fs.length) (k:=X.length+1+(pz x.l).length+(eU (acu.wrap (x.fs.length:Int))).length) (by rw[dT,dT,dT];rfl) rfl k)
def jW (n:Int):Nat:=jU n-1
theorem G9 (n:Int):jW n+1=jU n:=by
 have:1≤(eU n).length:=by
  unfold eU
  generalize n.toNat=k
  unfold pU
  split<;>simp
 unfold jW
 rw[gR];omega
noncomputable abbrev Ns (M:Mo) (g N i k:Nat) (L:List AV):cg:=af ae bF 81 1 [.fn (.func g) [] [.mp 1 0],sI .i64 N,sI .i64 i] [.ac (.ms 2 0 k 1 none::mV M),.ac [.mp 0 0],.ob (.gb 5) L] 2 21
theorem Zg {M:Mo} {g N i k:Nat} {L:List AV} {o:Out} {X:List Nat} (hk:k=X.length) (hL:L=(bt X).map .p) (h:bD ae bF (Ns M g N i X.length ((bt X).map .p)) o):bD ae bF (Ns M g N i k L) o:=by subst hk;subst hL;exact h
theorem Vv {α:Type} (M:Mo) (g:Nat) (l:List α) (e:α→List Nat) (hit : ∀i x,l[i]? = some x→Item M g i (e x)) (hl:l.length≤1000000) : ∀(r i:Nat) (X:List Nat),i+r=l.length→X.length+((l.drop i).flatMap e).length≤10000000000000 →
  bD ae bF (Ns M g l.length i X.length ((bt X).map .p)) (.ret (.aK []) [wB M 2 (X++(l.drop i).flatMap e).length,.ac [.mp 0 0],gB (X++(l.drop i).flatMap e)]):=by
 intro r
 induction r with
 |zero=>
  intro i X hi hX
  have hd:decide ((i:Int)<(l.length:Int))=false:=decide_eq_false (by omega)
  refine ah aI (Dr M g l.length X.length i 0 (bt X) []) ?_
  simp only[Bv,aA.ok,hd,aX]
  refine⟨fun q=>(by cases q),fun _=> ?_⟩
  rw[adv (by omega),adx,Lk]
 |succ r ih=>
  intro i X hi hX
  have uF:i<l.length:=by omega
  have hg:l[i]? = some l[i]:=de uF
  rw[Bx hg,dT] at hX
  have hd:decide ((i:Int)<(l.length:Int))=true:=decide_eq_true (by omega)
  have w:sa.wrap ((i:Int)+1)=((i+1:Nat):Int):=by rw[bA (by omega) (by omega)];rfl
  have hq:=hit i _ hg X (by omega)
  rw[dT] at hq
  unfold gB at hq
  rw[bn,acx] at hq
  refine ah aI (Dr M g l.length X.length i (e l[i]).length (bt X) (bt (e l[i]))) ?_
  simp only[Bv,aA.ok,hd,w,aX,acx]
  refine⟨fun _=>⟨hq,trivial,?_⟩,fun q=>(by cases q)⟩
  have k:=ih (i+1) (X++e l[i]) (by omega) (by rw[dT];omega)
  rw[vt X,←Bx hg] at k
  exact Zg (by rw[dT]) (by rw[bn,acx]) k
theorem fc {α:Type} (M:Mo) (g:Nat) (l:List α) (e:α→List Nat) (hit : ∀i x,l[i]? = some x→Item M g i (e x)) (hl:l.length≤1000000) (h0:l.length≠0) (hB:(nZ l e).length≤10000000000000) :
  au ae bF 81 [.mp 0 0,sI .i64 l.length,.fn (.func g) [] [.mp 1 0]] [.ac (.os none 0 0 []::mV M),.ac [.mp 0 0]] (.aK []) [wB M 2 (nZ l e).length,.ac [.mp 0 0],gB (nZ l e)]:=by
 have ct:bH=70368744177664:=rfl
 have l2:=iz (acu.wrap (l.length:Int))
 have hz:((l.length:Int)==0)=false:=by rw[beq_eq_false_iff_ne];omega
 have he:nZ l e=eV l.length++(l.drop 0).flatMap e:=by unfold nZ;rw[if_neg h0,acw]
 rw[he] at hB ⊢
 rw[dT] at hB
 refine aa aI (Dq M g l.length jW qU) ?_
 simp only[Bu,bu,aA.ok,hz,G9,gR,jg,aX,acx,vb,Ps,pD,cX,gy,ac7]
 simp only[dp,acO,ac8,ct]
 refine⟨fun q=>(by cases q),fun _=>⟨au.xz (gS (fH _)),⟨by omega,by omega⟩,trivial,?_⟩⟩
 have k:=Vv M g l e hit hl l.length 0 (eV l.length) (by omega) hB
 exact Zg rfl rfl k
theorem ff (M:Mo) (g:Nat) (N:Nat) (h0:N=0):au ae bF 81 [.mp 0 0,sI .i64 N,.fn (.func g) [] [.mp 1 0]] [.ac (.os none 0 0 []::mV M),.ac [.mp 0 0]] (.aK []) [.ac (.os none 0 0 []::mV M),.ac [.mp 0 0]]:=by
 subst h0
 refine aa aI (Dq M g 0 jW qU) ?_
 simp only[Bu,bu,aA.ok]
 exact⟨fun _=>(by first | exact ads | rfl),fun q=>(by cases q)⟩
structure _root_.Go.Am.Mo.cj (M:Mo):Prop where
 len:M.tys.length≤5000∧M.aZ.length≤5000∧M.fns.length≤5000∧M.dh.length≤5000∧M.dw.length≤5000∧M.gls.length≤5000∧M.exs.length≤5000∧M.els.length≤5000∧M.aY.length≤5000
 aZ : ∀x∈M.aZ,x.mo.data.toList.length≤1000000∧x.nm.data.toList.length≤1000000
 fns : ∀x∈M.fns,sV x.l∧cZ x.l≤1000000
 dh : ∀x∈M.dh,tN x
 dw : ∀x∈M.dw,tN x
 gls : ∀x∈M.gls,sV x.l∧cZ x.l≤1000000
 exs : ∀x∈M.exs,x.nm.data.toList.length≤1000000∧0≤x.ix∧x.ix<4294967296
 sn:0≤M.sn∧M.sn<4294967296
 els : ∀x∈M.els,sV x.l∧cZ x.l≤1000000∧x.fs.length≤1000000 ∧ ∀t∈x.fs,0≤t∧t<4294967296
 aY : ∀x∈M.aY,sV x.l∧cZ x.l≤1000000∧x.bs.length≤1000000 ∧ ∀b∈x.bs,0≤b
theorem FD {α:Type} (e:α→List Nat) (B:Nat) : ∀l:List α,(∀x∈l,(e x).length≤B)→(l.flatMap e).length≤l.length*B
 |[],_=>by simp
 |x::l,h=>by
  have h1:=h x (.head _)
  have h2:=FD e B l fun y hy=>h y (.tail _ hy)
  rw[ac2,dT,od,Nat.add_mul]
  omega
theorem iF {α:Type} (e:α→List Nat) (l:List α) (h : ∀x∈l,(e x).length≤30000000) (hl:l.length≤5000):(nZ l e).length≤200000000000:=by
 have h1:=FD e 30000000 l h
 have h2:=jd (l.length:Int)
 unfold nZ
 split
 · simp
 · rw[dT];omega
theorem fO {M:Mo} (h:M.cj) (d:Nat):(sec M d).length≤200000000000:=by
 obtain⟨n1,n2,n3,n4,n5,n6,n7,n8,n9⟩:=h.len
 unfold sec
 split
 · refine iF _ _ (fun x hx=> ?_) n1
   rcases zX x with⟨k,k1,k2,k3,k4⟩ | k
   · have:=G6 x.p;have:=G6 x.r
     unfold Bn;rw[if_pos k];simp only[od,dT];omega
   · unfold Bn;rw[if_neg (by omega)];simp
 · refine iF _ _ (fun x hx=> ?_) n2
   have:=FC x.mo (h.aZ x hx).1;have:=FC x.nm (h.aZ x hx).2;have:=jd x.ty
   simp only[JF,dT,od,acA];omega
 · refine iF _ _ (fun x hx=> ?_) n3
   have:=jd x.ty
   unfold JG;omega
 · refine iF _ _ (fun x hx=> ?_) n4
   have:=Nc 1048576 x
   simp only[JH,dT,od,acA];omega
 · refine iF _ _ (fun x hx=> ?_) n5
   have:=Nc 65536 x
   unfold M6;omega
 · refine iF _ _ (fun x hx=> ?_) n6
   have:=rV (h.gls x hx).2
   simp only[JI,dT,od,acA];omega
 · refine iF _ _ (fun x hx=> ?_) n7
   have:=FC x.nm (h.exs x hx).1;have:=iz x.ix
   simp only[JK,dT,od,acA];omega
 · have:=iz M.sn
   split
   · omega
   · simp
 · refine iF _ _ (fun x hx=> ?_) n8
   obtain⟨_,q1,q2,_⟩:=h.els x hx
   have:=rV q1;have:=jd (x.fs.length:Int);have:=FD eU 5 x.fs fun t _=>iz t
   simp only[JL,dT,od,acA];omega
 · refine iF _ _ (fun x hx=> ?_) n3
   have:=UZ (lo:=x.lo) (h.fns x hx).2;have:=jd ((wg x.lo x.l).length:Int)
   simp only[BR,dT];omega
 · refine iF _ _ (fun x hx=> ?_) n9
   obtain⟨_,q1,q2,_⟩:=h.aY x hx
   have:=rV q1;have:=jd (x.bs.length:Int)
   simp only[JM,dT,od,acA,ov];omega
 · simp
def Lays (M:Mo) (f:FuncId) (Y:List Nat):Prop:=
 (Y.length=0→au ae bF f [.mp 0 0] [.ac (.os none 0 0 []::mV M)] (.aK []) [.ac (.os none 0 0 []::mV M)]) ∧
 (Y.length≠0→au ae bF f [.mp 0 0] [.ac (.os none 0 0 []::mV M)] (.aK []) [wB M 1 Y.length,gB Y])
theorem cR {α:Type} (l:List α) (e:α→List Nat):(nZ l e).length=0↔l.length=0:=by
 have n0:1≤(eV (l.length:Int)).length:=by have:=G9 (acu.wrap (l.length:Int));rw[gR] at this;unfold eV;omega
 unfold nZ
 split
 · simp_all
 · rw[dT];omega
theorem DP {M:Mo} (h:M.cj):Lays M 34 (sec M 1):=by
 have hn:M.tys.length≤1000000:=by have:=h.len;omega
 have hb:=fO h 1
 refine⟨fun h0=> ?_,fun h0=> ?_⟩
 · refine aa aI (IM M 0 []) ?_
   simp only[Ds,bu,aA.ok]
   exact⟨ff M 82 _ ((cR M.tys Bn).1 h0),(by first | exact ads | rfl)⟩
 · refine aa aI (IN M (sec M 1).length (bt (sec M 1))) ?_
   simp only[Dt,bu,aA.ok,aX]
   exact⟨fc M 82 M.tys Bn (fun i x hx=>Ql M i x hx) hn (fun q=>h0 ((cR M.tys Bn).2 q)) (by show(sec M 1).length≤10000000000000;omega),(by first | exact ads | rfl)⟩
theorem DQ {M:Mo} (h:M.cj):Lays M 35 (sec M 2):=by
 have hn:M.aZ.length≤1000000:=by have:=h.len;omega
 have hb:=fO h 2
 refine⟨fun h0=> ?_,fun h0=> ?_⟩
 · refine aa aI (IP M 0 []) ?_
   simp only[Du,bu,aA.ok]
   exact⟨ff M 84 _ ((cR M.aZ JF).1 h0),(by first | exact ads | rfl)⟩
 · refine aa aI (IQ M (sec M 2).length (bt (sec M 2))) ?_
   simp only[Dv,bu,aA.ok,aX]
   exact⟨fc M 84 M.aZ JF (fun i x hx=>Qt M i x hx (h.aZ x (oi hx)).1 (h.aZ x (oi hx)).2) hn (fun q=>h0 ((cR M.aZ JF).2 q)) (by show(sec M 2).length≤10000000000000;omega),(by first | exact ads | rfl)⟩
theorem DR {M:Mo} (h:M.cj):Lays M 36 (sec M 3):=by
 have hn:M.fns.length≤1000000:=by have:=h.len;omega
 have hb:=fO h 3
 refine⟨fun h0=> ?_,fun h0=> ?_⟩
 · refine aa aI (IS M 0 []) ?_
   simp only[Dw,bu,aA.ok]
   exact⟨ff M 86 _ ((cR M.fns JG).1 h0),(by first | exact ads | rfl)⟩
 · refine aa aI (IT M (sec M 3).length (bt (sec M 3))) ?_
   simp only[Dx,bu,aA.ok,aX]
   exact⟨fc M 86 M.fns JG (fun i x hx=>Qm M i x hx) hn (fun q=>h0 ((cR M.fns JG).2 q)) (by show(sec M 3).length≤10000000000000;omega),(by first | exact ads | rfl)⟩
theorem DS {M:Mo} (h:M.cj):Lays M 37 (sec M 4):=by
 have hn:M.dh.length≤1000000:=by have:=h.len;omega
 have hb:=fO h 4
 refine⟨fun h0=> ?_,fun h0=> ?_⟩
 · refine aa aI (IU M 0 []) ?_
   simp only[Dy,bu,aA.ok]
   exact⟨ff M 87 _ ((cR M.dh JH).1 h0),(by first | exact ads | rfl)⟩
 · refine aa aI (IV M (sec M 4).length (bt (sec M 4))) ?_
   simp only[Dz,bu,aA.ok,aX]
   exact⟨fc M 87 M.dh JH (fun i x hx=>Qn M i x hx (h.dh x (oi hx))) hn (fun q=>h0 ((cR M.dh JH).2 q)) (by show(sec M 4).length≤10000000000000;omega),(by first | exact ads | rfl)⟩
theorem DT {M:Mo} (h:M.cj):Lays M 38 (sec M 5):=by
 have hn:M.dw.length≤1000000:=by have:=h.len;omega
 have hb:=fO h 5
 refine⟨fun h0=> ?_,fun h0=> ?_⟩
 · refine aa aI (IW M 0 []) ?_
   simp only[DA,bu,aA.ok]
   exact⟨ff M 89 _ ((cR M.dw M6).1 h0),(by first | exact ads | rfl)⟩
 · refine aa aI (IX M (sec M 5).length (bt (sec M 5))) ?_
   simp only[DB,bu,aA.ok,aX]
   exact⟨fc M 89 M.dw M6 (fun i x hx=>Qo M i x hx (h.dw x (oi hx))) hn (fun q=>h0 ((cR M.dw M6).2 q)) (by show(sec M 5).length≤10000000000000;omega),(by first | exact ads | rfl)⟩
theorem DU {M:Mo} (h:M.cj):Lays M 39 (sec M 6):=by
 have hn:M.gls.length≤1000000:=by have:=h.len;omega
 have hb:=fO h 6
 refine⟨fun h0=> ?_,fun h0=> ?_⟩
 · refine aa aI (IY M 0 []) ?_
   simp only[DC,bu,aA.ok]
   exact⟨ff M 90 _ ((cR M.gls JI).1 h0),(by first | exact ads | rfl)⟩
 · refine aa aI (IZ M (sec M 6).length (bt (sec M 6))) ?_
   simp only[DD,bu,aA.ok,aX]
   exact⟨fc M 90 M.gls JI (fun i x hx=>Qp M i x hx (h.gls x (oi hx)).1 (h.gls x (oi hx)).2) hn (fun q=>h0 ((cR M.gls JI).2 q)) (by show(sec M 6).length≤10000000000000;omega),(by first | exact ads | rfl)⟩
theorem DV {M:Mo} (h:M.cj):Lays M 40 (sec M 7):=by
 have hn:M.exs.length≤1000000:=by have:=h.len;omega
 have hb:=fO h 7
 refine⟨fun h0=> ?_,fun h0=> ?_⟩
 · refine aa aI (I0 M 0 []) ?_
   simp only[DE,bu,aA.ok]
   exact⟨ff M 92 _ ((cR M.exs JK).1 h0),(by first | exact ads | rfl)⟩
 · refine aa aI (I1 M (sec M 7).length (bt (sec M 7))) ?_
   simp only[DF,bu,aA.ok,aX]
   exact⟨fc M 92 M.exs JK (fun i x hx=>Qr M i x hx (h.exs x (oi hx)).1 (h.exs x (oi hx)).2) hn (fun q=>h0 ((cR M.exs JK).2 q)) (by show(sec M 7).length≤10000000000000;omega),(by first | exact ads | rfl)⟩
theorem DW {M:Mo} (h:M.cj):Lays M 42 (sec M 9):=by
 have hn:M.els.length≤1000000:=by have:=h.len;omega
 have hb:=fO h 9
 refine⟨fun h0=> ?_,fun h0=> ?_⟩
 · refine aa aI (I2 M 0 []) ?_
   simp only[DG,bu,aA.ok]
   exact⟨ff M 93 _ ((cR M.els JL).1 h0),(by first | exact ads | rfl)⟩
 · refine aa aI (I3 M (sec M 9).length (bt (sec M 9))) ?_
   simp only[DH,bu,aA.ok,aX]
   exact⟨fc M 93 M.els JL (fun i x hx=>QY M i x hx (h.els x (oi hx)).1 (h.els x (oi hx)).2.1 (h.els x (oi hx)).2.2.1 (h.els x (oi hx)).2.2.2) hn (fun q=>h0 ((cR M.els JL).2 q)) (by show(sec M 9).length≤10000000000000;omega),(by first | exact ads | rfl)⟩
theorem DX {M:Mo} (h:M.cj):Lays M 43 (sec M 10):=by
 have hn:M.fns.length≤1000000:=by have:=h.len;omega
 have hb:=fO h 10
 refine⟨fun h0=> ?_,fun h0=> ?_⟩
 · refine aa aI (I4 M 0 []) ?_
   simp only[DI,bu,aA.ok]
   exact⟨ff M 94 _ ((cR M.fns BR).1 h0),(by first | exact ads | rfl)⟩
 · refine aa aI (I5 M (sec M 10).length (bt (sec M 10))) ?_
   simp only[DJ,bu,aA.ok,aX]
   exact⟨fc M 94 M.fns BR (fun i x hx=>Qq M i x hx (h.fns x (oi hx)).1 (h.fns x (oi hx)).2) hn (fun q=>h0 ((cR M.fns BR).2 q)) (by show(sec M 10).length≤10000000000000;omega),(by first | exact ads | rfl)⟩
theorem DY {M:Mo} (h:M.cj):Lays M 44 (sec M 11):=by
 have hn:M.aY.length≤1000000:=by have:=h.len;omega
 have hb:=fO h 11
 refine⟨fun h0=> ?_,fun h0=> ?_⟩
 · refine aa aI (I6 M 0 []) ?_
   simp only[DK,bu,aA.ok]
   exact⟨ff M 96 _ ((cR M.aY JM).1 h0),(by first | exact ads | rfl)⟩
 · refine aa aI (I7 M (sec M 11).length (bt (sec M 11))) ?_
   simp only[DL,bu,aA.ok,aX]
   exact⟨fc M 96 M.aY JM (fun i x hx=>Qs M i x hx (h.aY x (oi hx)).1 (h.aY x (oi hx)).2.1 (h.aY x (oi hx)).2.2.1 (h.aY x (oi hx)).2.2.2) hn (fun q=>h0 ((cR M.aY JM).2 q)) (by show(sec M 11).length≤10000000000000;omega),(by first | exact ads | rfl)⟩
theorem He {M:Mo} (h:M.cj):Lays M 41 (sec M 8):=by
 have ct:bH=70368744177664:=rfl
 have hl:=iz M.sn
 have n0:1≤(eU M.sn).length:=by have:=G9 M.sn;rw[gR] at this;omega
 cases hs:M.st with
 |true=>
  have e:sec M 8=eU M.sn:=by simp only[sec,hs,if_true]
  rw[e]
  refine⟨fun q=>absurd q (by omega),fun _=> ?_⟩
  refine aa aI (DM M jW qU) ?_
  simp only[Bw,bu,aA.ok,hs,G9,gR,jg,aX,acx,vb,Ps,pD,cX,gy,ac7]
  simp only[dp,acO,ac8,ct]
  exact⟨fun _=>⟨au.xz (gS h.sn),⟨by omega,by omega⟩,trivial,(by first | exact ads | rfl)⟩,fun q=>(by cases q)⟩
 |false=>
  have e:sec M 8=[]:=by simp only[sec,hs,Bool.false_eq_true,if_false]
  rw[e]
  refine⟨fun _=> ?_,fun q=>absurd rfl q⟩
  refine aa aI (DM M jW qU) ?_
  simp only[Bw,bu,aA.ok,hs]
  exact⟨fun q=>(by cases q),fun _=>(by first | exact ads | rfl)⟩
end Go.Proofs.YtncncijedmfpjaaGreatDoor.N
end
