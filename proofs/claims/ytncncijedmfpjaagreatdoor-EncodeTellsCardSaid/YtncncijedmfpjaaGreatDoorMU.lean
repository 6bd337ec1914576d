import Derived.Test.YtncncijedmfpjaaGreatDoorMT
open Nat renaming beq→ba,mul_one→ajS,ble_eq→ajp,zero_add→pn,beq_eq→fi
open Go.IntKind renaming i64→re,u32→aeG,u8→ajw
open List renaming map→aeM,length_append→dC,mem_of_getElem?→mv,map_append→aeJ,length_cons→ml,length_nil→aeK,getElem?_eq_some_iff→dT,getElem?_eq_getElem→da,take→aeQ,drop→aky,drop_of_length_le→akY,length_map→my,flatMap_cons→aju,append_assoc→tl,map_nil→ta,flatMap_nil→akZ,append_nil→Hc,nil_append→Hm,drop_zero→aeI
open Go.Proofs.Tryz renaming prog→ae
open Go.Fn renaming func→ajv
open Option renaming none→ae1
open Go.Value renaming int→sb
open Bool renaming and_eq_true→di,and_true→ajQ,true_and→ajX
open True renaming intro→akX
noncomputable section
section
set_option linter.unusedSimpArgs false
set_option linter.unusedVariables false
namespace Go.Proofs.YtncncijedmfpjaaGreatDoor.N
open Go Go.Am
def al5 (M:Mo) (g:Nat) (N:Nat) (J:aah) (Q:aal) (f:FuncId) (args:List AV) (m:Mem):Option (AV×Mem):=none
def al6 (M:Mo) (g:Nat) (N:Nat) (J:aah) (Q:aal) (f:FuncId) (args:List AV) (m:Mem):Option (AV×Mem):=cond (ba f 45) (match args with | [.p (.sc (.int _ n))]=>some (.p (.ps (J n+1) 1 (Q n)),m) | _=>none) none
def al7 (M:Mo) (g N k i n:Nat) (X Z:List PV) (f:FuncId) (args:List AV) (m:Mem):Option (AV×Mem):=some (.aK [],[.ac [.mp 1 0],.ac (.ms 3 0 (k+n) 1 none::M.aJ.map .p),.dead,.ob (.gb 5) (X.map .p++Z.map .p)])
def al8 (M:Mo) (g N k i n:Nat) (X Z:List PV):FuncId→Nat→Nat→Option (AV→AV):=bJ [(81,7,0,sI .i64 ((i+1:Nat):Int))]
def AH (M:Mo) (k:Nat) (X:List PV) (f:FuncId) (args:List AV) (m:Mem):Option (AV×Mem):=cond (ba f 81) (some (.aK [],m)) none
def AI (M:Mo) (k:Nat) (X:List PV) (f:FuncId) (args:List AV) (m:Mem):Option (AV×Mem):=cond (ba f 81) (some (.aK [],[.ac (.ms 2 0 k 1 none::M.aJ.map .p),.ac [.mp 0 0],.ob (.gb 5) (X.map .p)])) none
def al9 (M:Mo) (J:aah) (Q:aal) (f:FuncId) (args:List AV) (m:Mem):Option (AV×Mem):=cond (ba f 45) (match args with | [.p (.sc (.int _ n))]=>some (.p (.ps (J n+1) 1 (Q n)),m) | _=>none) none
def ah1 (M:Mo) (d g k:Nat) (X:List PV):FuncId→Nat→Nat→Option (AV→AV):=bJ [(18,4,4,.fn (.func g) [.mp 1 0] [])]
def ama (M:Mo) (d g k:Nat) (X:List PV) (f:FuncId) (args:List AV) (m:Mem):Option (AV×Mem):=some (.aK [],m)
def amb (M:Mo) (d g k:Nat) (X:List PV) (f:FuncId) (args:List AV) (m:Mem):Option (AV×Mem):=some (.aK [],[.ac (.ms 1 0 k 1 none::M.aJ.map .p),.ob (.gb 5) (X.map .p)])
def ah2 (M:Mo) (d:Int) (e:Int) (k:Nat) (X:List PV) (f:FuncId) (args:List AV) (m:Mem):Option (AV×Mem):=cond (ba f 17) (some (sI .i64 e,m)) (cond (ba f 18) (some (.os none 0 0 [],m)) none)
def amc (M:Mo) (d:Int) (e:Int) (k:Nat) (X:List PV) (f:FuncId) (args:List AV) (m:Mem):Option (AV×Mem):=cond (ba f 17) (some (sI .i64 e,m)) (cond (ba f 18) (some (.ms 0 0 k 1 none,[.ob (.gb 5) (X.map .p)])) none)
def ah3 (M:Mo) (d k n:Nat) (X Z:List PV) (J:aah) (Q:aal) (f:FuncId) (args:List AV) (m:Mem):Option (AV×Mem):=cond (ba f 18) (some (.os none 0 0 [],m)) none
def ah4 (M:Mo) (d k n:Nat) (X Z:List PV) (J:aah) (Q:aal) (f:FuncId) (args:List AV) (m:Mem):Option (AV×Mem):=cond (ba f 18) (some (.ms 0 0 (n+1) 1 none,[.ob (.gb 5) (Z.map .p)])) none
def WV (M:Mo) (d k n:Nat) (X Z:List PV) (J:aah) (Q:aal) (f:FuncId) (args:List AV) (m:Mem):Option (AV×Mem):=cond (ba f 45) (match args with | [.p (.sc (.int _ n))]=>some (.p (.ps (J n) 1 (Q n)),m) | _=>none) none
def WW (M:Mo) (d k n:Nat) (X Z:List PV) (J:aah) (Q:aal):FuncId→Nat→Nat→Option (AV→AV):=bJ [(7,8,1,sI .i64 ((d+1:Nat):Int))]
def ac2 (M:Mo) (g:Nat) (N:Nat) (J:aah) (Q:aal):bA:=aM (al5 M g N J Q) (al6 M g N J Q) [(81,1)] [(81,0,0)] [(20,0,0)]
def ah5:Sc:= .fin
def D4 (M:Mo) (g:Nat) (N:Nat) (J:aah) (Q:aal):aA:=
 (.test ((↑N:Int)==0)
 (.out (.ret (.aK []) [.ac (bB::mV M),.ac [.mp 0 0]]))
 (.call ⟨45,[sI .u32 (aeG.wrap (↑N:Int))],[],.p (.ps (J (aeG.wrap (↑N:Int))+1) 1 (Q (aeG.wrap (↑N:Int)))),[]⟩
 (.must (((0+(J (aeG.wrap (↑N:Int))+1))*1).ble aR&&(0+(J (aeG.wrap (↑N:Int))+1)).ble aR&&allBy (aeM AV.p (Q (aeG.wrap (↑N:Int))))&&true&&true&&true)
 (.must true
 (.at (ah ae bO 81 1 [.fn (ajv g) [] [.mp 1 0],sI .i64 (↑N:Int),sI .i64 0] ([.ac (.ms 2 0 (0+(J (aeG.wrap (↑N:Int))+1)) 1 none::mV M),.ac [.mp 0 0],.ob (dS.gb 5) (aeM av (aeM av (aeM av ([]++aeM AV.p (Q (aeG.wrap (↑N:Int)))))))]) 2 21))))))
theorem Gv (M:Mo) (g:Nat) (N:Nat) (J:aah) (Q:aal):aI ae bO (ac2 M g N J Q) 1000000 81 ([AV.mp 0 0,sI re (↑N:Int),AV.fn (ajv g) [] [AV.mp 1 0]]) ([bq.ac (AV.os ae1 0 0 []::mV M),bq.ac [AV.mp 0 0]]) ah5=D4 M g N J Q:=by kernel_rfl
def ac3 (M:Mo) (g:Nat) (N:Nat) (k:Nat) (i:Nat) (n:Nat) (X:List PV) (Z:List PV):bA:=dY (al7 M g N k i n X Z) aC [(81,1)] [(81,0,2)] [] (al8 M g N k i n X Z)
def ah6:Sc:= .fin
def D5 (M:Mo) (g:Nat) (N:Nat) (k:Nat) (i:Nat) (n:Nat) (X:List PV) (Z:List PV):aA:=
 (.test (decide ((↑i:Int)<(↑N:Int)))
 (.call ⟨g,[sI .i64 (↑i:Int),.mp 0 0],[.ac [.mp 1 0],.ac (.ms 2 0 k 1 none::mV M),.ob (dS.gb 5) (aeM av (aeM AV.p X))],.aK [],[.ac [.mp 1 0],.ac (.ms 3 0 (k+n) 1 none::mV M),.dead,.ob (dS.gb 5) (aeM AV.p X++aeM AV.p Z)]⟩
 (.need (sI .i64 (re.wrap ((↑i:Int)+1))=sI re (↑(i+1):Int))
 (.at (ah ae bO 81 1 [.fn (ajv g) [] [.mp 1 0],sI .i64 (↑N:Int),sI .i64 (↑(i+1):Int)] ([.ac (.ms 2 0 (k+n) 1 none::mV M),.ac [.mp 0 0],.ob (dS.gb 5) (aeM av (aeM av (aeM AV.p X++aeM AV.p Z)))]) 2 21))))
 (.out (.ret (.aK []) [.ac (.ms 2 0 k 1 none::mV M),.ac [.mp 0 0],.ob (dS.gb 5) (aeM av (aeM AV.p X))])))
theorem Gw (M:Mo) (g:Nat) (N:Nat) (k:Nat) (i:Nat) (n:Nat) (X:List PV) (Z:List PV):grow ae bO (ac3 M g N k i n X Z) 1000000 true (ah ae bO 81 1 ([AV.fn (ajv g) [] [AV.mp 1 0],sI re (↑N:Int),sI re (↑i:Int)]) ([bq.ac (AV.ms 2 0 k 1 ae1::mV M),bq.ac [AV.mp 0 0],bq.ob (dS.gb 5) (aeM AV.p X)]) 2 21) ah6 atEnd=D5 M g N k i n X Z:=by kernel_rfl
def WX (M:Mo) (k:Nat) (X:List PV):bA:=aM (AH M k X) aC [] [] []
def ac4:Sc:= .fin
def Gx (M:Mo) (k:Nat) (X:List PV):aA:=
 (.call ⟨81,[.mp 0 0,sI .i64 (↑M.tys.length:Int),.fn (ajv 82) [] [.mp 1 0]],[.ac (bB::mV M),.ac [.mp 0 0]],.aK [],[.ac (bB::mV M),.ac [.mp 0 0]]⟩
 (.out (.ret (.aK []) [.ac (bB::mV M)])))
theorem MZ (M:Mo) (k:Nat) (X:List PV):aI ae bO (WX M k X) 1000000 34 ([AV.mp 0 0]) ([bq.ac (AV.os ae1 0 0 []::mV M)]) ac4=Gx M k X:=by kernel_rfl
def WY (M:Mo) (k:Nat) (X:List PV):bA:=aM (AI M k X) aC [] [] []
def ac5:Sc:= .fin
def Gy (M:Mo) (k:Nat) (X:List PV):aA:=
 (.call ⟨81,[.mp 0 0,sI .i64 (↑M.tys.length:Int),.fn (ajv 82) [] [.mp 1 0]],[.ac (bB::mV M),.ac [.mp 0 0]],.aK [],[.ac (.ms 2 0 k 1 none::mV M),.ac [.mp 0 0],.ob (dS.gb 5) (aeM AV.p X)]⟩
 (.out (.ret (.aK []) [.ac (.ms 1 0 k 1 none::mV M),.ob (dS.gb 5) (aeM av (aeM av (aeM AV.p X)))])))
theorem M0 (M:Mo) (k:Nat) (X:List PV):aI ae bO (WY M k X) 1000000 34 ([AV.mp 0 0]) ([bq.ac (AV.os ae1 0 0 []::mV M)]) ac5=Gy M k X:=by kernel_rfl
def WZ (M:Mo) (k:Nat) (X:List PV):bA:=aM (AH M k X) aC [] [] []
def ac6:Sc:= .fin
def Gz (M:Mo) (k:Nat) (X:List PV):aA:=
 (.call ⟨81,[.mp 0 0,sI .i64 (↑M.aX.length:Int),.fn (ajv 84) [] [.mp 1 0]],[.ac (bB::mV M),.ac [.mp 0 0]],.aK [],[.ac (bB::mV M),.ac [.mp 0 0]]⟩
 (.out (.ret (.aK []) [.ac (bB::mV M)])))
theorem M1 (M:Mo) (k:Nat) (X:List PV):aI ae bO (WZ M k X) 1000000 35 ([AV.mp 0 0]) ([bq.ac (AV.os ae1 0 0 []::mV M)]) ac6=Gz M k X:=by kernel_rfl
def W0 (M:Mo) (k:Nat) (X:List PV):bA:=aM (AI M k X) aC [] [] []
def ac7:Sc:= .fin
def GA (M:Mo) (k:Nat) (X:List PV):aA:=
 (.call ⟨81,[.mp 0 0,sI .i64 (↑M.aX.length:Int),.fn (ajv 84) [] [.mp 1 0]],[.ac (bB::mV M),.ac [.mp 0 0]],.aK [],[.ac (.ms 2 0 k 1 none::mV M),.ac [.mp 0 0],.ob (dS.gb 5) (aeM AV.p X)]⟩
 (.out (.ret (.aK []) [.ac (.ms 1 0 k 1 none::mV M),.ob (dS.gb 5) (aeM av (aeM av (aeM AV.p X)))])))
theorem M3 (M:Mo) (k:Nat) (X:List PV):aI ae bO (W0 M k X) 1000000 35 ([AV.mp 0 0]) ([bq.ac (AV.os ae1 0 0 []::mV M)]) ac7=GA M k X:=by kernel_rfl
def W1 (M:Mo) (k:Nat) (X:List PV):bA:=aM (AH M k X) aC [] [] []
def ac8:Sc:= .fin
def GB (M:Mo) (k:Nat) (X:List PV):aA:=
 (.call ⟨81,[.mp 0 0,sI .i64 (↑M.fns.length:Int),.fn (ajv 86) [] [.mp 1 0]],[.ac (bB::mV M),.ac [.mp 0 0]],.aK [],[.ac (bB::mV M),.ac [.mp 0 0]]⟩
 (.out (.ret (.aK []) [.ac (bB::mV M)])))
theorem M4 (M:Mo) (k:Nat) (X:List PV):aI ae bO (W1 M k X) 1000000 36 ([AV.mp 0 0]) ([bq.ac (AV.os ae1 0 0 []::mV M)]) ac8=GB M k X:=by kernel_rfl
def W2 (M:Mo) (k:Nat) (X:List PV):bA:=aM (AI M k X) aC [] [] []
def ac9:Sc:= .fin
def GC (M:Mo) (k:Nat) (X:List PV):aA:=
 (.call ⟨81,[.mp 0 0,sI .i64 (↑M.fns.length:Int),.fn (ajv 86) [] [.mp 1 0]],[.ac (bB::mV M),.ac [.mp 0 0]],.aK [],[.ac (.ms 2 0 k 1 none::mV M),.ac [.mp 0 0],.ob (dS.gb 5) (aeM AV.p X)]⟩
 (.out (.ret (.aK []) [.ac (.ms 1 0 k 1 none::mV M),.ob (dS.gb 5) (aeM av (aeM av (aeM AV.p X)))])))
theorem M5 (M:Mo) (k:Nat) (X:List PV):aI ae bO (W2 M k X) 1000000 36 ([AV.mp 0 0]) ([bq.ac (AV.os ae1 0 0 []::mV M)]) ac9=GC M k X:=by kernel_rfl
def W3 (M:Mo) (k:Nat) (X:List PV):bA:=aM (AH M k X) aC [] [] []
def ada:Sc:= .fin
def GD (M:Mo) (k:Nat) (X:List PV):aA:=
 (.call ⟨81,[.mp 0 0,sI .i64 (↑M.b8.length:Int),.fn (ajv 87) [] [.mp 1 0]],[.ac (bB::mV M),.ac [.mp 0 0]],.aK [],[.ac (bB::mV M),.ac [.mp 0 0]]⟩
 (.out (.ret (.aK []) [.ac (bB::mV M)])))
theorem M6 (M:Mo) (k:Nat) (X:List PV):aI ae bO (W3 M k X) 1000000 37 ([AV.mp 0 0]) ([bq.ac (AV.os ae1 0 0 []::mV M)]) ada=GD M k X:=by kernel_rfl
def W4 (M:Mo) (k:Nat) (X:List PV):bA:=aM (AI M k X) aC [] [] []
def adb:Sc:= .fin
def GF (M:Mo) (k:Nat) (X:List PV):aA:=
 (.call ⟨81,[.mp 0 0,sI .i64 (↑M.b8.length:Int),.fn (ajv 87) [] [.mp 1 0]],[.ac (bB::mV M),.ac [.mp 0 0]],.aK [],[.ac (.ms 2 0 k 1 none::mV M),.ac [.mp 0 0],.ob (dS.gb 5) (aeM AV.p X)]⟩
 (.out (.ret (.aK []) [.ac (.ms 1 0 k 1 none::mV M),.ob (dS.gb 5) (aeM av (aeM av (aeM AV.p X)))])))
theorem M7 (M:Mo) (k:Nat) (X:List PV):aI ae bO (W4 M k X) 1000000 37 ([AV.mp 0 0]) ([bq.ac (AV.os ae1 0 0 []::mV M)]) adb=GF M k X:=by kernel_rfl
def W5 (M:Mo) (k:Nat) (X:List PV):bA:=aM (AH M k X) aC [] [] []
def ade:Sc:= .fin
def GG (M:Mo) (k:Nat) (X:List PV):aA:=
 (.call ⟨81,[.mp 0 0,sI .i64 (↑M.b9.length:Int),.fn (ajv 89) [] [.mp 1 0]],[.ac (bB::mV M),.ac [.mp 0 0]],.aK [],[.ac (bB::mV M),.ac [.mp 0 0]]⟩
 (.out (.ret (.aK []) [.ac (bB::mV M)])))
theorem M8 (M:Mo) (k:Nat) (X:List PV):aI ae bO (W5 M k X) 1000000 38 ([AV.mp 0 0]) ([bq.ac (AV.os ae1 0 0 []::mV M)]) ade=GG M k X:=by kernel_rfl
def W6 (M:Mo) (k:Nat) (X:List PV):bA:=aM (AI M k X) aC [] [] []
def adf:Sc:= .fin
def GH (M:Mo) (k:Nat) (X:List PV):aA:=
 (.call ⟨81,[.mp 0 0,sI .i64 (↑M.b9.length:Int),.fn (ajv 89) [] [.mp 1 0]],[.ac (bB::mV M),.ac [.mp 0 0]],.aK [],[.ac (.ms 2 0 k 1 none::mV M),.ac [.mp 0 0],.ob (dS.gb 5) (aeM AV.p X)]⟩
 (.out (.ret (.aK []) [.ac (.ms 1 0 k 1 none::mV M),.ob (dS.gb 5) (aeM av (aeM av (aeM AV.p X)))])))
theorem M9 (M:Mo) (k:Nat) (X:List PV):aI ae bO (W6 M k X) 1000000 38 ([AV.mp 0 0]) ([bq.ac (AV.os ae1 0 0 []::mV M)]) adf=GH M k X:=by kernel_rfl
def W7 (M:Mo) (k:Nat) (X:List PV):bA:=aM (AH M k X) aC [] [] []
def adg:Sc:= .fin
def GI (M:Mo) (k:Nat) (X:List PV):aA:=
 (.call ⟨81,[.mp 0 0,sI .i64 (↑M.gls.length:Int),.fn (ajv 90) [] [.mp 1 0]],[.ac (bB::mV M),.ac [.mp 0 0]],.aK [],[.ac (bB::mV M),.ac [.mp 0 0]]⟩
 (.out (.ret (.aK []) [.ac (bB::mV M)])))
theorem Na (M:Mo) (k:Nat) (X:List PV):aI ae bO (W7 M k X) 1000000 39 ([AV.mp 0 0]) ([bq.ac (AV.os ae1 0 0 []::mV M)]) adg=GI M k X:=by kernel_rfl
def W8 (M:Mo) (k:Nat) (X:List PV):bA:=aM (AI M k X) aC [] [] []
def adh:Sc:= .fin
def GJ (M:Mo) (k:Nat) (X:List PV):aA:=
 (.call ⟨81,[.mp 0 0,sI .i64 (↑M.gls.length:Int),.fn (ajv 90) [] [.mp 1 0]],[.ac (bB::mV M),.ac [.mp 0 0]],.aK [],[.ac (.ms 2 0 k 1 none::mV M),.ac [.mp 0 0],.ob (dS.gb 5) (aeM AV.p X)]⟩
 (.out (.ret (.aK []) [.ac (.ms 1 0 k 1 none::mV M),.ob (dS.gb 5) (aeM av (aeM av (aeM AV.p X)))])))
theorem Nb (M:Mo) (k:Nat) (X:List PV):aI ae bO (W8 M k X) 1000000 39 ([AV.mp 0 0]) ([bq.ac (AV.os ae1 0 0 []::mV M)]) adh=GJ M k X:=by kernel_rfl
def W9 (M:Mo) (k:Nat) (X:List PV):bA:=aM (AH M k X) aC [] [] []
def adi:Sc:= .fin
def GK (M:Mo) (k:Nat) (X:List PV):aA:=
 (.call ⟨81,[.mp 0 0,sI .i64 (↑M.exs.length:Int),.fn (ajv 92) [] [.mp 1 0]],[.ac (bB::mV M),.ac [.mp 0 0]],.aK [],[.ac (bB::mV M),.ac [.mp 0 0]]⟩
 (.out (.ret (.aK []) [.ac (bB::mV M)])))
theorem Nc (M:Mo) (k:Nat) (X:List PV):aI ae bO (W9 M k X) 1000000 40 ([AV.mp 0 0]) ([bq.ac (AV.os ae1 0 0 []::mV M)]) adi=GK M k X:=by kernel_rfl
def Xa (M:Mo) (k:Nat) (X:List PV):bA:=aM (AI M k X) aC [] [] []
def adj:Sc:= .fin
def GL (M:Mo) (k:Nat) (X:List PV):aA:=
 (.call ⟨81,[.mp 0 0,sI .i64 (↑M.exs.length:Int),.fn (ajv 92) [] [.mp 1 0]],[.ac (bB::mV M),.ac [.mp 0 0]],.aK [],[.ac (.ms 2 0 k 1 none::mV M),.ac [.mp 0 0],.ob (dS.gb 5) (aeM AV.p X)]⟩
 (.out (.ret (.aK []) [.ac (.ms 1 0 k 1 none::mV M),.ob (dS.gb 5) (aeM av (aeM av (aeM AV.p X)))])))
theorem Nd (M:Mo) (k:Nat) (X:List PV):aI ae bO (Xa M k X) 1000000 40 ([AV.mp 0 0]) ([bq.ac (AV.os ae1 0 0 []::mV M)]) adj=GL M k X:=by kernel_rfl
def Xb (M:Mo) (k:Nat) (X:List PV):bA:=aM (AH M k X) aC [] [] []
def adk:Sc:= .fin
def GM (M:Mo) (k:Nat) (X:List PV):aA:=
 (.call ⟨81,[.mp 0 0,sI .i64 (↑M.els.length:Int),.fn (ajv 93) [] [.mp 1 0]],[.ac (bB::mV M),.ac [.mp 0 0]],.aK [],[.ac (bB::mV M),.ac [.mp 0 0]]⟩
 (.out (.ret (.aK []) [.ac (bB::mV M)])))
theorem Nf (M:Mo) (k:Nat) (X:List PV):aI ae bO (Xb M k X) 1000000 42 ([AV.mp 0 0]) ([bq.ac (AV.os ae1 0 0 []::mV M)]) adk=GM M k X:=by kernel_rfl
def Xc (M:Mo) (k:Nat) (X:List PV):bA:=aM (AI M k X) aC [] [] []
def adl:Sc:= .fin
def GN (M:Mo) (k:Nat) (X:List PV):aA:=
 (.call ⟨81,[.mp 0 0,sI .i64 (↑M.els.length:Int),.fn (ajv 93) [] [.mp 1 0]],[.ac (bB::mV M),.ac [.mp 0 0]],.aK [],[.ac (.ms 2 0 k 1 none::mV M),.ac [.mp 0 0],.ob (dS.gb 5) (aeM AV.p X)]⟩
 (.out (.ret (.aK []) [.ac (.ms 1 0 k 1 none::mV M),.ob (dS.gb 5) (aeM av (aeM av (aeM AV.p X)))])))
theorem Ng (M:Mo) (k:Nat) (X:List PV):aI ae bO (Xc M k X) 1000000 42 ([AV.mp 0 0]) ([bq.ac (AV.os ae1 0 0 []::mV M)]) adl=GN M k X:=by kernel_rfl
def Xd (M:Mo) (k:Nat) (X:List PV):bA:=aM (AH M k X) aC [] [] []
def adm:Sc:= .fin
def GO (M:Mo) (k:Nat) (X:List PV):aA:=
 (.call ⟨81,[.mp 0 0,sI .i64 (↑M.fns.length:Int),.fn (ajv 94) [] [.mp 1 0]],[.ac (bB::mV M),.ac [.mp 0 0]],.aK [],[.ac (bB::mV M),.ac [.mp 0 0]]⟩
 (.out (.ret (.aK []) [.ac (bB::mV M)])))
theorem Nh (M:Mo) (k:Nat) (X:List PV):aI ae bO (Xd M k X) 1000000 43 ([AV.mp 0 0]) ([bq.ac (AV.os ae1 0 0 []::mV M)]) adm=GO M k X:=by kernel_rfl
def Xe (M:Mo) (k:Nat) (X:List PV):bA:=aM (AI M k X) aC [] [] []
def adn:Sc:= .fin
def GP (M:Mo) (k:Nat) (X:List PV):aA:=
 (.call ⟨81,[.mp 0 0,sI .i64 (↑M.fns.length:Int),.fn (ajv 94) [] [.mp 1 0]],[.ac (bB::mV M),.ac [.mp 0 0]],.aK [],[.ac (.ms 2 0 k 1 none::mV M),.ac [.mp 0 0],.ob (dS.gb 5) (aeM AV.p X)]⟩
 (.out (.ret (.aK []) [.ac (.ms 1 0 k 1 none::mV M),.ob (dS.gb 5) (aeM av (aeM av (aeM AV.p X)))])))
theorem Ni (M:Mo) (k:Nat) (X:List PV):aI ae bO (Xe M k X) 1000000 43 ([AV.mp 0 0]) ([bq.ac (AV.os ae1 0 0 []::mV M)]) adn=GP M k X:=by kernel_rfl
def Xf (M:Mo) (k:Nat) (X:List PV):bA:=aM (AH M k X) aC [] [] []
def ado:Sc:= .fin
def GQ (M:Mo) (k:Nat) (X:List PV):aA:=
 (.call ⟨81,[.mp 0 0,sI .i64 (↑M.bp.length:Int),.fn (ajv 96) [] [.mp 1 0]],[.ac (bB::mV M),.ac [.mp 0 0]],.aK [],[.ac (bB::mV M),.ac [.mp 0 0]]⟩
 (.out (.ret (.aK []) [.ac (bB::mV M)])))
theorem Nj (M:Mo) (k:Nat) (X:List PV):aI ae bO (Xf M k X) 1000000 44 ([AV.mp 0 0]) ([bq.ac (AV.os ae1 0 0 []::mV M)]) ado=GQ M k X:=by kernel_rfl
def Xg (M:Mo) (k:Nat) (X:List PV):bA:=aM (AI M k X) aC [] [] []
def adp:Sc:= .fin
def GR (M:Mo) (k:Nat) (X:List PV):aA:=
 (.call ⟨81,[.mp 0 0,sI .i64 (↑M.bp.length:Int),.fn (ajv 96) [] [.mp 1 0]],[.ac (bB::mV M),.ac [.mp 0 0]],.aK [],[.ac (.ms 2 0 k 1 none::mV M),.ac [.mp 0 0],.ob (dS.gb 5) (aeM AV.p X)]⟩
 (.out (.ret (.aK []) [.ac (.ms 1 0 k 1 none::mV M),.ob (dS.gb 5) (aeM av (aeM av (aeM AV.p X)))])))
theorem Nk (M:Mo) (k:Nat) (X:List PV):aI ae bO (Xg M k X) 1000000 44 ([AV.mp 0 0]) ([bq.ac (AV.os ae1 0 0 []::mV M)]) adp=GR M k X:=by kernel_rfl
def adq (M:Mo) (J:aah) (Q:aal):bA:=aM aE (al9 M J Q) [] [(41,0,0)] [(20,0,0)]
def ah7:Sc:= .fin
def D6 (M:Mo) (J:aah) (Q:aal):aA:=
 (.test (M.st)
 (.call ⟨45,[sI .u32 M.sn],[],.p (.ps (J M.sn+1) 1 (Q M.sn)),[]⟩
 (.must (((0+(J M.sn+1))*1).ble aR&&(0+(J M.sn+1)).ble aR&&allBy (aeM AV.p (Q M.sn))&&true&&true&&true)
 (.must true
 (.out (.ret (.aK []) [.ac (.ms 1 0 (0+(J M.sn+1)) 1 none::mV M),.ob (dS.gb 5) (aeM av (aeM av (aeM av ([]++aeM AV.p (Q M.sn)))))])))))
 (.out (.ret (.aK []) [.ac (bB::mV M)])))
theorem GS (M:Mo) (J:aah) (Q:aal):aI ae bO (adq M J Q) 1000000 41 ([AV.mp 0 0]) ([bq.ac (AV.os ae1 0 0 []::mV M)]) ah7=D6 M J Q:=by kernel_rfl
def adr (M:Mo) (d:Nat) (g:Nat) (k:Nat) (X:List PV):bA:=dY (ama M d g k X) aC [] [] [(18,4,3),(18,4,4)] (ah1 M d g k X)
def ah8:Sc:= .fin
def gN (M:Mo) (d:Nat) (g:Nat) (k:Nat) (X:List PV):aA:=
 (.must (aP (re.wrap ((↑d:Int)-1)) 11&&true&&true)
 (.must ((0+(re.wrap ((↑d:Int)-1)).toNat*1+1).ble 11&&(iF (ae.underlying 1) ([.fn (ajv 34) [.mp 1 0] [],.fn (ajv 35) [.mp 1 0] [],.fn (ajv 36) [.mp 1 0] [],.fn (ajv 37) [.mp 1 0] [],.fn (ajv 38) [.mp 1 0] [],.fn (ajv 39) [.mp 1 0] [],.fn (ajv 40) [.mp 1 0] [],.fn (ajv 41) [.mp 1 0] [],.fn (ajv 42) [.mp 1 0] [],.fn (ajv 43) [.mp 1 0] [],.fn (ajv 44) [.mp 1 0] []].getD (0+(re.wrap ((↑d:Int)-1)).toNat*1) .bC)).snd&&true)
 (.need (((iF (ae.underlying 1) ([AV.fn (ajv 34) [AV.mp 1 0] [],AV.fn (ajv 35) [AV.mp 1 0] [],AV.fn (ajv 36) [AV.mp 1 0] [],AV.fn (ajv 37) [AV.mp 1 0] [],AV.fn (ajv 38) [AV.mp 1 0] [],AV.fn (ajv 39) [AV.mp 1 0] [],AV.fn (ajv 40) [AV.mp 1 0] [],AV.fn (ajv 41) [AV.mp 1 0] [],AV.fn (ajv 42) [AV.mp 1 0] [],AV.fn (ajv 43) [AV.mp 1 0] [],AV.fn (ajv 44) [AV.mp 1 0] []].getD (0+(re.wrap ((↑d:Int)-1)).toNat*1) AV.bC)).fst,(0+(re.wrap ((↑d:Int)-1)).toNat*1+1).ble 11&&(iF (ae.underlying 1) ([AV.fn (ajv 34) [AV.mp 1 0] [],AV.fn (ajv 35) [AV.mp 1 0] [],AV.fn (ajv 36) [AV.mp 1 0] [],AV.fn (ajv 37) [AV.mp 1 0] [],AV.fn (ajv 38) [AV.mp 1 0] [],AV.fn (ajv 39) [AV.mp 1 0] [],AV.fn (ajv 40) [AV.mp 1 0] [],AV.fn (ajv 41) [AV.mp 1 0] [],AV.fn (ajv 42) [AV.mp 1 0] [],AV.fn (ajv 43) [AV.mp 1 0] [],AV.fn (ajv 44) [AV.mp 1 0] []].getD (0+(re.wrap ((↑d:Int)-1)).toNat*1) AV.bC)).snd).fst=AV.fn (ajv g) [AV.mp 1 0] [])
 (.call ⟨g,[.mp 0 0],[.ac (bB::mV M)],.aK [],[.ac (bB::mV M)]⟩
 (.out (.ret (bB) []))))))
theorem fX (M:Mo) (d:Nat) (g:Nat) (k:Nat) (X:List PV):aI ae bO (adr M d g k X) 1000000 18 ([AV.agg (mV M),sI re (↑d:Int)]) ([]) ah8=gN M d g k X:=by kernel_rfl
def ads (M:Mo) (d:Nat) (g:Nat) (k:Nat) (X:List PV):bA:=dY (amb M d g k X) aC [] [] [(18,4,3),(18,4,4)] (ah1 M d g k X)
def ah9:Sc:= .fin
def gO (M:Mo) (d:Nat) (g:Nat) (k:Nat) (X:List PV):aA:=
 (.must (aP (re.wrap ((↑d:Int)-1)) 11&&true&&true)
 (.must ((0+(re.wrap ((↑d:Int)-1)).toNat*1+1).ble 11&&(iF (ae.underlying 1) ([.fn (ajv 34) [.mp 1 0] [],.fn (ajv 35) [.mp 1 0] [],.fn (ajv 36) [.mp 1 0] [],.fn (ajv 37) [.mp 1 0] [],.fn (ajv 38) [.mp 1 0] [],.fn (ajv 39) [.mp 1 0] [],.fn (ajv 40) [.mp 1 0] [],.fn (ajv 41) [.mp 1 0] [],.fn (ajv 42) [.mp 1 0] [],.fn (ajv 43) [.mp 1 0] [],.fn (ajv 44) [.mp 1 0] []].getD (0+(re.wrap ((↑d:Int)-1)).toNat*1) .bC)).snd&&true)
 (.need (((iF (ae.underlying 1) ([AV.fn (ajv 34) [AV.mp 1 0] [],AV.fn (ajv 35) [AV.mp 1 0] [],AV.fn (ajv 36) [AV.mp 1 0] [],AV.fn (ajv 37) [AV.mp 1 0] [],AV.fn (ajv 38) [AV.mp 1 0] [],AV.fn (ajv 39) [AV.mp 1 0] [],AV.fn (ajv 40) [AV.mp 1 0] [],AV.fn (ajv 41) [AV.mp 1 0] [],AV.fn (ajv 42) [AV.mp 1 0] [],AV.fn (ajv 43) [AV.mp 1 0] [],AV.fn (ajv 44) [AV.mp 1 0] []].getD (0+(re.wrap ((↑d:Int)-1)).toNat*1) AV.bC)).fst,(0+(re.wrap ((↑d:Int)-1)).toNat*1+1).ble 11&&(iF (ae.underlying 1) ([AV.fn (ajv 34) [AV.mp 1 0] [],AV.fn (ajv 35) [AV.mp 1 0] [],AV.fn (ajv 36) [AV.mp 1 0] [],AV.fn (ajv 37) [AV.mp 1 0] [],AV.fn (ajv 38) [AV.mp 1 0] [],AV.fn (ajv 39) [AV.mp 1 0] [],AV.fn (ajv 40) [AV.mp 1 0] [],AV.fn (ajv 41) [AV.mp 1 0] [],AV.fn (ajv 42) [AV.mp 1 0] [],AV.fn (ajv 43) [AV.mp 1 0] [],AV.fn (ajv 44) [AV.mp 1 0] []].getD (0+(re.wrap ((↑d:Int)-1)).toNat*1) AV.bC)).snd).fst=AV.fn (ajv g) [AV.mp 1 0] [])
 (.call ⟨g,[.mp 0 0],[.ac (bB::mV M)],.aK [],[.ac (.ms 1 0 k 1 none::mV M),.ob (dS.gb 5) (aeM AV.p X)]⟩
 (.out (.ret (.ms 0 0 k 1 none) [.ob (dS.gb 5) (aeM av (aeM av (aeM AV.p X)))]))))))
theorem fY (M:Mo) (d:Nat) (g:Nat) (k:Nat) (X:List PV):aI ae bO (ads M d g k X) 1000000 18 ([AV.agg (mV M),sI re (↑d:Int)]) ([]) ah9=gO M d g k X:=by kernel_rfl
def adt (M:Mo) (d e:Int) (k:Nat) (X:List PV):bA:=aM (ah2 M d e k X) aC [] [(12,0,0),(12,5,3),(12,0,1)] []
def aia:Sc:=(.fork .fin (.fork (.lit .fin) .fin))
def Le (M:Mo) (d e:Int) (k:Nat) (X:List PV):aA:=
 (.call ⟨17,[.agg (aeM AV.p M.aJ)],[],sI .i64 e,[]⟩
 (.test (e != 0)
 (.out (.ret (.aK [bB,sI .i64 e]) []))
 (.test (decide (d<1))
 (.out (.ret (.aK [bB,sI .i64 5]) []))
 (.test (decide (d>11))
 (.out (.ret (.aK [bB,sI .i64 5]) []))
 (.call ⟨18,[.agg (aeM AV.p M.aJ),sI .i64 d],[],bB,[]⟩
 (.out (.ret (.aK [bB,sI .i64 0]) [])))))))
theorem SI (M:Mo) (d e:Int) (k:Nat) (X:List PV):aI ae bO (adt M d e k X) 1000000 12 ([AV.agg (mV M),sI re d]) ([]) aia=Le M d e k X:=by kernel_rfl
def adu (M:Mo) (d e:Int) (k:Nat) (X:List PV):bA:=aM (amc M d e k X) aC [] [(12,0,0),(12,5,3),(12,0,1)] []
def aib:Sc:=(.fork .fin (.fork (.lit .fin) .fin))
def Lf (M:Mo) (d e:Int) (k:Nat) (X:List PV):aA:=
 (.call ⟨17,[.agg (aeM AV.p M.aJ)],[],sI .i64 e,[]⟩
 (.test (e != 0)
 (.out (.ret (.aK [bB,sI .i64 e]) []))
 (.test (decide (d<1))
 (.out (.ret (.aK [bB,sI .i64 5]) []))
 (.test (decide (d>11))
 (.out (.ret (.aK [bB,sI .i64 5]) []))
 (.call ⟨18,[.agg (aeM AV.p M.aJ),sI .i64 d],[],.ms 0 0 k 1 none,[.ob (dS.gb 5) (aeM AV.p X)]⟩
 (.out (.ret (.aK [.ms 0 0 k 1 none,sI .i64 0]) [.ob (dS.gb 5) (aeM av (aeM av (aeM AV.p X)))])))))))
theorem SJ (M:Mo) (d e:Int) (k:Nat) (X:List PV):aI ae bO (adu M d e k X) 1000000 12 ([AV.agg (mV M),sI re d]) ([]) aib=Lf M d e k X:=by kernel_rfl
def adv (M:Mo) (d e:Int) (k:Nat) (X:List PV):bA:=aM (ah2 M d e k X) aC [(7,1)] [(7,0,0)] []
def aic:Sc:= .fin
def sM (M:Mo) (d e:Int) (k:Nat) (X:List PV):aA:=
 (.call ⟨17,[.agg (aeM AV.p M.aJ)],[],sI .i64 e,[]⟩
 (.test (e != 0)
 (.out (.ret (.aK [bB,sI .i64 e]) []))
 (.at (ah ae bO 7 1 [.mp 0 0,.mp 1 0,sI .i64 1] ([.pc M.aJ,.ac [.os none 8 1 [.sc (.int .u8 0),.sc (.int .u8 97),.sc (.int .u8 115),.sc (.int .u8 109),.sc (.int .u8 1),.sc (.int .u8 0),.sc (.int .u8 0),.sc (.int .u8 0)]]]) 0 38))))
theorem sN (M:Mo) (d e:Int) (k:Nat) (X:List PV):aI ae bO (adv M d e k X) 1000000 7 ([AV.agg (mV M)]) ([]) aic=sM M d e k X:=by kernel_rfl
def Xh (M:Mo) (d:Nat) (k:Nat) (n:Nat) (X:List PV) (Z:List PV) (J:aah) (Q:aal):bA:=dY (ah3 M d k n X Z J Q) (WV M d k n X Z J Q) [(7,1)] [(7,0,2)] [] (WW M d k n X Z J Q)
def adw:Sc:= .fin
def sO (M:Mo) (d:Nat) (k:Nat) (n:Nat) (X:List PV) (Z:List PV) (J:aah) (Q:aal):aA:=
 (.test (decide ((↑d:Int)≤11))
 (.call ⟨18,[.agg (aeM AV.p M.aJ),sI .i64 (↑d:Int)],[],bB,[]⟩
 (.need (sI .i64 (re.wrap ((↑d:Int)+1))=sI re (↑(d+1):Int))
 (.at (ah ae bO 7 1 [.mp 0 0,.mp 1 0,sI .i64 (↑(d+1):Int)] ([.pc M.aJ,.ac [.os none 8 1 [.sc (.int .u8 0),.sc (.int .u8 97),.sc (.int .u8 115),.sc (.int .u8 109),.sc (.int .u8 1),.sc (.int .u8 0),.sc (.int .u8 0),.sc (.int .u8 0)]]]) 0 38))))
 (.out (.ret (.aK [.os none 8 1 [.sc (.int .u8 0),.sc (.int .u8 97),.sc (.int .u8 115),.sc (.int .u8 109),.sc (.int .u8 1),.sc (.int .u8 0),.sc (.int .u8 0),.sc (.int .u8 0)],sI .i64 0]) [])))
theorem uw (M:Mo) (d:Nat) (k:Nat) (n:Nat) (X:List PV) (Z:List PV) (J:aah) (Q:aal):grow ae bO (Xh M d k n X Z J Q) 1000000 true (ah ae bO 7 1 ([AV.mp 0 0,AV.mp 1 0,sI re (↑d:Int)]) ([bq.pc M.aJ,bq.ac [AV.os ae1 8 1 [PV.sc (sb ajw 0),PV.sc (sb ajw 97),PV.sc (sb ajw 115),PV.sc (sb ajw 109),PV.sc (sb ajw 1),PV.sc (sb ajw 0),PV.sc (sb ajw 0),PV.sc (sb ajw 0)]]]) 0 38) adw atEnd=sO M d k n X Z J Q:=by kernel_rfl
def Xi (M:Mo) (d:Nat) (k:Nat) (n:Nat) (X:List PV) (Z:List PV) (J:aah) (Q:aal):bA:=dY (ah4 M d k n X Z J Q) (WV M d k n X Z J Q) [(7,1)] [(7,0,2),(7,0,3)] [(20,0,0),(19,1,5)] (WW M d k n X Z J Q)
def adx:Sc:= .fin
def GU (M:Mo) (d:Nat) (k:Nat) (n:Nat) (X:List PV) (Z:List PV) (J:aah) (Q:aal):aA:=
 (.test (decide ((↑d:Int)≤11))
 (.call ⟨18,[.agg (aeM AV.p M.aJ),sI .i64 (↑d:Int)],[],.ms 0 0 (n+1) 1 none,[.ob (dS.gb 5) (aeM AV.p Z)]⟩
 (.test (decide ((↑(n+1):Int)>0))
 (.must true
 (.call ⟨45,[sI .u32 (aeG.wrap (↑(n+1):Int))],[],.p (.ps (J (aeG.wrap (↑(n+1):Int))) 1 (Q (aeG.wrap (↑(n+1):Int)))),[]⟩
 (.must (((9+J (aeG.wrap (↑(n+1):Int)))*1).ble aR&&(9+J (aeG.wrap (↑(n+1):Int))).ble aR&&allBy (aeM AV.p (Q (aeG.wrap (↑(n+1):Int))))&&true&&true&&true)
 (.must true
 (.must (pV (aeQ ((n+1)*1) (aky 0 (aeM av (aeM av (aeM AV.p Z)))))&&(0+(n+1)*1).ble (aeM av (aeM av (aeM AV.p Z))).length&&(((9+J (aeG.wrap (↑(n+1):Int))+(n+1))*1).ble aR&&(9+J (aeG.wrap (↑(n+1):Int))+(n+1)).ble aR)&&(((9+J (aeG.wrap (↑(n+1):Int)))*1).beq (sI .u8 0::sI .u8 97::sI .u8 115::sI .u8 109::sI .u8 1::sI .u8 0::sI .u8 0::sI .u8 0::sI .u8 (ajw.wrap (↑d:Int))::aeM av (aeM av (aeM av ([].append (aeM AV.p (Q (aeG.wrap (↑(n+1):Int)))))))).length&&allBy (aeM AV.p (aeM qw (aeQ ((n+1)*1) (aky 0 (aeM av (aeM av (aeM AV.p Z))))))))&&true)
 (.need (sI .i64 (re.wrap ((↑d:Int)+1))=sI re (↑(d+1):Int))
 (.at (ah ae bO 7 1 [.mp 0 0,.mp 1 0,sI .i64 (↑(d+1):Int)] ([.pc M.aJ,.ac [.ms 2 0 (9+J (aeG.wrap (↑(n+1):Int))+(n+1)) 1 none],.ob (dS.gb 5) (sI .u8 0::sI .u8 97::sI .u8 115::sI .u8 109::sI .u8 1::sI .u8 0::sI .u8 0::sI .u8 0::sI .u8 (ajw.wrap (↑d:Int))::aeM av (aeM av (aeM av ((aeM av (aeM av (aeM av ([].append (aeM AV.p (Q (aeG.wrap (↑(n+1):Int)))))))).append (aeM AV.p (aeM qw (aeQ ((n+1)*1) (aky 0 (aeM av (aeM av (aeM AV.p Z)))))))))))]) 0 38))))))))
 (.need (sI .i64 (re.wrap ((↑d:Int)+1))=sI re (↑(d+1):Int))
 (.at (ah ae bO 7 1 [.mp 0 0,.mp 1 0,sI .i64 (↑(d+1):Int)] ([.pc M.aJ,.ac [.os none 8 1 [.sc (.int .u8 0),.sc (.int .u8 97),.sc (.int .u8 115),.sc (.int .u8 109),.sc (.int .u8 1),.sc (.int .u8 0),.sc (.int .u8 0),.sc (.int .u8 0)]]]) 0 38)))))
 (.out (.ret (.aK [.os none 8 1 [.sc (.int .u8 0),.sc (.int .u8 97),.sc (.int .u8 115),.sc (.int .u8 109),.sc (.int .u8 1),.sc (.int .u8 0),.sc (.int .u8 0),.sc (.int .u8 0)],sI .i64 0]) [])))
theorem Nl (M:Mo) (d:Nat) (k:Nat) (n:Nat) (X:List PV) (Z:List PV) (J:aah) (Q:aal):grow ae bO (Xi M d k n X Z J Q) 1000000 true (ah ae bO 7 1 ([AV.mp 0 0,AV.mp 1 0,sI re (↑d:Int)]) ([bq.pc M.aJ,bq.ac [AV.os ae1 8 1 [PV.sc (sb ajw 0),PV.sc (sb ajw 97),PV.sc (sb ajw 115),PV.sc (sb ajw 109),PV.sc (sb ajw 1),PV.sc (sb ajw 0),PV.sc (sb ajw 0),PV.sc (sb ajw 0)]]]) 0 38) adx atEnd=GU M d k n X Z J Q:=by kernel_rfl
def Xj (M:Mo) (d:Nat) (k:Nat) (n:Nat) (X:List PV) (Z:List PV) (J:aah) (Q:aal):bA:=dY (ah3 M d k n X Z J Q) (WV M d k n X Z J Q) [(7,1)] [(7,0,2),(7,0,4)] [] (WW M d k n X Z J Q)
def ady:Sc:= .fin
def zu (M:Mo) (d:Nat) (k:Nat) (n:Nat) (X:List PV) (Z:List PV) (J:aah) (Q:aal):aA:=
 (.test (decide ((↑d:Int)≤11))
 (.call ⟨18,[.agg (aeM AV.p M.aJ),sI .i64 (↑d:Int)],[],bB,[]⟩
 (.need (sI .i64 (re.wrap ((↑d:Int)+1))=sI re (↑(d+1):Int))
 (.at (ah ae bO 7 1 [.mp 0 0,.mp 1 0,sI .i64 (↑(d+1):Int)] ([.pc M.aJ,.ac [.ms 2 0 k 1 none],.ob (dS.gb 5) (aeM av (aeM AV.p X))]) 0 38))))
 (.test (decide ((↑k:Int)>1048576))
 (.out (.ret (.aK [bB,sI .i64 3]) []))
 (.out (.ret (.aK [.ms 0 0 k 1 none,sI .i64 0]) [.ob (dS.gb 5) (aeM av (aeM AV.p X))]))))
theorem Cq (M:Mo) (d:Nat) (k:Nat) (n:Nat) (X:List PV) (Z:List PV) (J:aah) (Q:aal):grow ae bO (Xj M d k n X Z J Q) 1000000 true (ah ae bO 7 1 ([AV.mp 0 0,AV.mp 1 0,sI re (↑d:Int)]) ([bq.pc M.aJ,bq.ac [AV.ms 2 0 k 1 ae1],bq.ob (dS.gb 5) (aeM AV.p X)]) 0 38) ady atEnd=zu M d k n X Z J Q:=by kernel_rfl
def Xk (M:Mo) (d:Nat) (k:Nat) (n:Nat) (X:List PV) (Z:List PV) (J:aah) (Q:aal):bA:=dY (ah4 M d k n X Z J Q) (WV M d k n X Z J Q) [(7,1)] [(7,0,2),(7,0,3),(7,0,4)] [(19,1,5),(20,0,0)] (WW M d k n X Z J Q)
def adz:Sc:= .fin
def GV (M:Mo) (d:Nat) (k:Nat) (n:Nat) (X:List PV) (Z:List PV) (J:aah) (Q:aal):aA:=
 (.test (decide ((↑d:Int)≤11))
 (.call ⟨18,[.agg (aeM AV.p M.aJ),sI .i64 (↑d:Int)],[],.ms 0 0 (n+1) 1 none,[.ob (dS.gb 5) (aeM AV.p Z)]⟩
 (.test (decide ((↑(n+1):Int)>0))
 (.must (((k+1)*1).ble aR&&(k+1).ble aR&&((k*1).beq (aeM av (aeM AV.p X)).length&&true)&&true)
 (.call ⟨45,[sI .u32 (aeG.wrap (↑(n+1):Int))],[],.p (.ps (J (aeG.wrap (↑(n+1):Int))) 1 (Q (aeG.wrap (↑(n+1):Int)))),[]⟩
 (.must (((k+1+J (aeG.wrap (↑(n+1):Int)))*1).ble aR&&(k+1+J (aeG.wrap (↑(n+1):Int))).ble aR&&(((k+1)*1).beq (aeM av (aeM av (aeM av (aeM av (aeM AV.p X)++[sI .u8 (ajw.wrap (↑d:Int))])))).length&&allBy (aeM AV.p (Q (aeG.wrap (↑(n+1):Int)))))&&true&&true&&true)
 (.must true
 (.must (pV (aeQ ((n+1)*1) (aky 0 (aeM av (aeM av (aeM AV.p Z)))))&&(0+(n+1)*1).ble (aeM av (aeM av (aeM AV.p Z))).length&&(((k+1+J (aeG.wrap (↑(n+1):Int))+(n+1))*1).ble aR&&(k+1+J (aeG.wrap (↑(n+1):Int))+(n+1)).ble aR)&&(((k+1+J (aeG.wrap (↑(n+1):Int)))*1).beq (aeM av (aeM av (aeM av (aeM av (aeM av (aeM av (aeM av (aeM AV.p X)++[sI .u8 (ajw.wrap (↑d:Int))])))++aeM AV.p (Q (aeG.wrap (↑(n+1):Int))))))).length&&allBy (aeM AV.p (aeM qw (aeQ ((n+1)*1) (aky 0 (aeM av (aeM av (aeM AV.p Z))))))))&&true)
 (.need (sI .i64 (re.wrap ((↑d:Int)+1))=sI re (↑(d+1):Int))
 (.at (ah ae bO 7 1 [.mp 0 0,.mp 1 0,sI .i64 (↑(d+1):Int)] ([.pc M.aJ,.ac [.ms 2 0 (k+1+J (aeG.wrap (↑(n+1):Int))+(n+1)) 1 none],.ob (dS.gb 5) (aeM av (aeM av (aeM av (aeM av (aeM av (aeM av (aeM av (aeM av (aeM av (aeM av (aeM AV.p X)++[sI .u8 (ajw.wrap (↑d:Int))])))++aeM AV.p (Q (aeG.wrap (↑(n+1):Int))))))++aeM AV.p (aeM qw (aeQ ((n+1)*1) (aky 0 (aeM av (aeM av (aeM AV.p Z))))))))))]) 0 38))))))))
 (.need (sI .i64 (re.wrap ((↑d:Int)+1))=sI re (↑(d+1):Int))
 (.at (ah ae bO 7 1 [.mp 0 0,.mp 1 0,sI .i64 (↑(d+1):Int)] ([.pc M.aJ,.ac [.ms 2 0 k 1 none],.ob (dS.gb 5) (aeM av (aeM AV.p X))]) 0 38)))))
 (.test (decide ((↑k:Int)>1048576))
 (.out (.ret (.aK [bB,sI .i64 3]) []))
 (.out (.ret (.aK [.ms 0 0 k 1 none,sI .i64 0]) [.ob (dS.gb 5) (aeM av (aeM AV.p X))]))))
theorem Nn (M:Mo) (d:Nat) (k:Nat) (n:Nat) (X:List PV) (Z:List PV) (J:aah) (Q:aal):grow ae bO (Xk M d k n X Z J Q) 1000000 true (ah ae bO 7 1 ([AV.mp 0 0,AV.mp 1 0,sI re (↑d:Int)]) ([bq.pc M.aJ,bq.ac [AV.ms 2 0 k 1 ae1],bq.ob (dS.gb 5) (aeM AV.p X)]) 0 38) adz atEnd=GV M d k n X Z J Q:=by kernel_rfl
theorem pR {α:Type} {e:α→List Nat} {l:List α} {i:Nat} {x:α} (h:l[i]? = some x):(l.drop i).flatMap e=e x++(l.drop (i+1)).flatMap e:=by
 obtain⟨hi,rfl⟩:=dT.1 h
 rw[List.drop_eq_getElem_cons hi,aju]
noncomputable abbrev SK (M:Mo) (fs:List Int) (j k:Nat) (L:List AV):cm:=ah ae bO 93 0 [.mp 0 0,.p (.ps fs.length 1 (bN .u32 fs)),sI .i64 fs.length,sI .i64 j] [.ac [.mp 1 0],.ac (.ms 3 0 k 1 none::mV M),.dead,.ob (.gb 5) L] 3 46
theorem aid {M:Mo} {fs:List Int} {j k:Nat} {L:List AV} {o:Out} {X:List Nat} (hk:k=X.length) (hL:L=(bt X).map .p) (h:aU ae bO (SK M fs j X.length ((bt X).map .p)) o):aU ae bO (SK M fs j k L) o:=by subst hk;subst hL;exact h
theorem adA (M:Mo) (fs:List Int) (hf:fs.length≤1000000) (hu : ∀t∈fs,0≤t∧t<4294967296) : ∀(r j:Nat) (X:List Nat),j+r=fs.length→X.length+5*r≤20000000000000 →
  aU ae bO (SK M fs j X.length ((bt X).map .p)) (.ret (.aK []) [.ac [.mp 1 0],wB M 3 (X++(fs.drop j).flatMap eU).length,.dead,gB (X++(fs.drop j).flatMap eU)]):=by
 have bw:aR=70368744177664:=rfl
 intro r
 induction r with
 |zero=>
  intro j X hj hX
  have hd:decide ((j:Int)<(fs.length:Int))=false:=decide_eq_false (by omega)
  refine af aH (Lc M X.length j (bt X) jU qU fs 0) ?_
  simp only[Jn,aV,aA.ok,hd,bE]
  refine⟨fun q=>(by cases q),fun _=> ?_⟩
  rw[akY (by omega),akZ,Hc]
 |succ r ih=>
  intro j X hj hX
  have hjl:j<fs.length:=by omega
  have hg:fs[j]? = some fs[j]:=da hjl
  have hd:decide ((j:Int)<(fs.length:Int))=true:=decide_eq_true (by omega)
  have hin:aP (j:Int) fs.length=true:=by simp only[aP,di,decide_eq_true_eq];omega
  have hc:=vO hjl
  have w:re.wrap ((j:Int)+1)=((j+1:Nat):Int):=by rw[aQ (by omega) (by omega)];rfl
  have hl:=gy fs[j]
  refine af aH (Lc M X.length j (bt X) jU qU fs fs[j]) ?_
  simp only[Jn,aV,aA.ok,hd,hin,hc,w,isInt,au,Int.toNat_natCast,ajQ,ajX,beq_self_eq_true,bE,aeJ,allBy_append,dy,gx,gH,jA]
  simp only[di,ajp,fi,my,aT,dC,ajS,bw]
  refine⟨fun _=>⟨trivial,trivial,trivial,az.vS (iE (hu _ (List.getElem_mem hjl))),⟨by omega,trivial⟩,trivial,trivial,?_⟩,fun q=>(by cases q)⟩
  have k:=ih (j+1) (X++eU fs[j]) (by omega) (by rw[dC];omega)
  rw[tl X,←pR hg,show(X++(fs.drop j).flatMap eU).length=X.length+((fs.drop j).flatMap eU).length from dC] at k
  exact aid (by rw[dC]) (by rw[aS,aeJ]) k
set_option maxHeartbeats 1000000 in
theorem Xl (M:Mo) (i:Nat) (x:El) (hx:M.els[i]? = some x) (hw:qn x.l) (hc:cz x.l≤1000000) (hf:x.fs.length≤1000000) (hu : ∀t∈x.fs,0≤t∧t<4294967296):Item M 93 i (EC x):=by
 intro X hX
 have bw:aR=70368744177664:=rfl
 have hi:i<M.els.length:=(dT.1 hx).1
 have c:=aW (z:=2) (enc:=aN) (fun _=>rfl) hx
 have ew:(M.els.flatMap aN).getD (i*2) .bz=pL x.l:=c 0 (by decide)
 have eD:(M.els.flatMap aN).getD (i*2+1) .bz=pT .u32 x.fs:=c 1 (by decide)
 have hin:aP (i:Int) M.els.length=true:=by simp only[aP,di,decide_eq_true_eq];omega
 have l1:=oL hc
 have l2:=gy (aeG.wrap (x.fs.length:Int))
 have hX':X.length≤10000000000000:=by omega
 refine aa aH (WI M X.length i (bt X) jU qU x.l x.fs (bT dQ x.l) (kM x.l).length (bt (kM x.l))) ?_
 simp only[SF,aV,aA.ok,aO,an,aD,ak,Int.toNat_natCast,ajQ,ajX,beq_self_eq_true,Bool.and_self,bE,aeJ,jJ,List.map_cons,ta,allBy_append,dy,gx,nD,hin,gH,jA,ew,eD]
 simp only[di,ajp,fi,my,aT,dC,ml,aeK,ajS,bw]
 refine⟨trivial,trivial,trivial,⟨by omega,trivial⟩,az.vS (vP hw hc),⟨by omega,trivial⟩,az.vS (iE (eN _)),⟨by omega,trivial⟩,trivial,?_⟩
 have k:=adA M x.fs hf hu x.fs.length 0 (X++[0]++kM x.l++eV x.fs.length) (by omega) (by simp only[dC,ml,aeK,eV];omega)
 rw[aeI,show X++[0]++kM x.l++eV x.fs.length++x.fs.flatMap eU=X++EC x by simp[EC],show(X++EC x).length=X.length+(EC x).length from dC] at k
 have e0:aeM AV.p (bt X)++[sI .u8 0]++aeM AV.p (bt (kM x.l))++aeM AV.p (bt (eU (aeG.wrap (x.fs.length:Int))))=aeM AV.p (bt (X++[0]++kM x.l++eV x.fs.length)):=by
  rw[aS,aS,aS,aeJ,aeJ,aeJ];rfl
 rw[e0]
 exact aU.Az (by kernel_rfl) (aid (X:=X++[0]++kM x.l++eV x.fs.length) (k:=X.length+1+(kM x.l).length+(eU (aeG.wrap (x.fs.length:Int))).length) (by rw[dC,dC,dC];rfl) rfl k)
def jW (n:Int):Nat:=jU n-1
theorem GW (n:Int):jW n+1=jU n:=by
 have:1≤(eU n).length:=by
  unfold eU
  generalize n.toNat=k
  unfold pU
  split<;>simp
 unfold jW
 rw[gH];omega
noncomputable abbrev SL (M:Mo) (g N i k:Nat) (L:List AV):cm:=ah ae bO 81 1 [.fn (.func g) [] [.mp 1 0],sI .i64 N,sI .i64 i] [.ac (.ms 2 0 k 1 none::mV M),.ac [.mp 0 0],.ob (.gb 5) L] 2 21
theorem aie {M:Mo} {g N i k:Nat} {L:List AV} {o:Out} {X:List Nat} (hk:k=X.length) (hL:L=(bt X).map .p) (h:aU ae bO (SL M g N i X.length ((bt X).map .p)) o):aU ae bO (SL M g N i k L) o:=by subst hk;subst hL;exact h
theorem adB {α:Type} (M:Mo) (g:Nat) (l:List α) (e:α→List Nat) (hit : ∀i x,l[i]? = some x→Item M g i (e x)) (hl:l.length≤1000000) : ∀(r i:Nat) (X:List Nat),i+r=l.length→X.length+((l.drop i).flatMap e).length≤10000000000000 →
  aU ae bO (SL M g l.length i X.length ((bt X).map .p)) (.ret (.aK []) [wB M 2 (X++(l.drop i).flatMap e).length,.ac [.mp 0 0],gB (X++(l.drop i).flatMap e)]):=by
 intro r
 induction r with
 |zero=>
  intro i X hi hX
  have hd:decide ((i:Int)<(l.length:Int))=false:=decide_eq_false (by omega)
  refine af aH (Gw M g l.length X.length i 0 (bt X) []) ?_
  simp only[D5,aA.ok,hd,bE]
  refine⟨fun q=>(by cases q),fun _=> ?_⟩
  rw[akY (by omega),akZ,Hc]
 |succ r ih=>
  intro i X hi hX
  have nW:i<l.length:=by omega
  have hg:l[i]? = some l[i]:=da nW
  rw[pR hg,dC] at hX
  have hd:decide ((i:Int)<(l.length:Int))=true:=decide_eq_true (by omega)
  have w:re.wrap ((i:Int)+1)=((i+1:Nat):Int):=by rw[aQ (by omega) (by omega)];rfl
  have hq:=hit i _ hg X (by omega)
  rw[dC] at hq
  unfold gB at hq
  rw[aS,aeJ] at hq
  refine af aH (Gw M g l.length X.length i (e l[i]).length (bt X) (bt (e l[i]))) ?_
  simp only[D5,aA.ok,hd,w,bE,aeJ]
  refine⟨fun _=>⟨hq,trivial,?_⟩,fun q=>(by cases q)⟩
  have k:=ih (i+1) (X++e l[i]) (by omega) (by rw[dC];omega)
  rw[tl X,←pR hg] at k
  exact aie (by rw[dC]) (by rw[aS,aeJ]) k
theorem fE {α:Type} (M:Mo) (g:Nat) (l:List α) (e:α→List Nat) (hit : ∀i x,l[i]? = some x→Item M g i (e x)) (hl:l.length≤1000000) (h0:l.length≠0) (hB:(yS l e).length≤10000000000000) :
  az ae bO 81 [.mp 0 0,sI .i64 l.length,.fn (.func g) [] [.mp 1 0]] [.ac (.os none 0 0 []::mV M),.ac [.mp 0 0]] (.aK []) [wB M 2 (yS l e).length,.ac [.mp 0 0],gB (yS l e)]:=by
 have bw:aR=70368744177664:=rfl
 have l2:=gy (aeG.wrap (l.length:Int))
 have hz:((l.length:Int)==0)=false:=by rw[beq_eq_false_iff_ne];omega
 have he:yS l e=eV l.length++(l.drop 0).flatMap e:=by unfold yS;rw[if_neg h0,aeI]
 rw[he] at hB ⊢
 rw[dC] at hB
 refine aa aH (Gv M g l.length jW qU) ?_
 simp only[D4,aV,aA.ok,hz,GW,gH,jA,bE,aeJ,ta,Hm,pn,dy,gx,ajQ]
 simp only[di,ajp,ajS,bw]
 refine⟨fun q=>(by cases q),fun _=>⟨az.vS (iE (eN _)),⟨by omega,by omega⟩,trivial,?_⟩⟩
 have k:=adB M g l e hit hl l.length 0 (eV l.length) (by omega) hB
 exact aie rfl rfl k
theorem fF (M:Mo) (g:Nat) (N:Nat) (h0:N=0):az ae bO 81 [.mp 0 0,sI .i64 N,.fn (.func g) [] [.mp 1 0]] [.ac (.os none 0 0 []::mV M),.ac [.mp 0 0]] (.aK []) [.ac (.os none 0 0 []::mV M),.ac [.mp 0 0]]:=by
 subst h0
 refine aa aH (Gv M g 0 jW qU) ?_
 simp only[D4,aV,aA.ok]
 exact⟨fun _=>(by first | exact akX | rfl),fun q=>(by cases q)⟩
structure _root_.Go.Am.Mo.dB (M:Mo):Prop where
 len:M.tys.length≤5000∧M.aX.length≤5000∧M.fns.length≤5000∧M.b8.length≤5000∧M.b9.length≤5000∧M.gls.length≤5000∧M.exs.length≤5000∧M.els.length≤5000∧M.bp.length≤5000
 aX : ∀x∈M.aX,x.mo.data.toList.length≤1000000∧x.nm.data.toList.length≤1000000
 fns : ∀x∈M.fns,qn x.l∧cz x.l≤1000000
 b8 : ∀x∈M.b8,uj x
 b9 : ∀x∈M.b9,uj x
 gls : ∀x∈M.gls,qn x.l∧cz x.l≤1000000
 exs : ∀x∈M.exs,x.nm.data.toList.length≤1000000∧0≤x.ix∧x.ix<4294967296
 sn:0≤M.sn∧M.sn<4294967296
 els : ∀x∈M.els,qn x.l∧cz x.l≤1000000∧x.fs.length≤1000000 ∧ ∀t∈x.fs,0≤t∧t<4294967296
 bp : ∀x∈M.bp,qn x.l∧cz x.l≤1000000∧x.bs.length≤1000000 ∧ ∀b∈x.bs,0≤b
theorem Jp {α:Type} (e:α→List Nat) (B:Nat) : ∀l:List α,(∀x∈l,(e x).length≤B)→(l.flatMap e).length≤l.length*B
 |[],_=>by simp
 |x::l,h=>by
  have h1:=h x (.head _)
  have h2:=Jp e B l fun y hy=>h y (.tail _ hy)
  rw[aju,dC,ml,Nat.add_mul]
  omega
theorem jf {α:Type} (e:α→List Nat) (l:List α) (h : ∀x∈l,(e x).length≤30000000) (hl:l.length≤5000):(yS l e).length≤200000000000:=by
 have h1:=Jp e 30000000 l h
 have h2:=eg (l.length:Int)
 unfold yS
 split
 · simp
 · rw[dC];omega
theorem dh {M:Mo} (h:M.dB) (d:Nat):(sec M d).length≤200000000000:=by
 obtain⟨n1,n2,n3,n4,n5,n6,n7,n8,n9⟩:=h.len
 unfold sec
 split
 · refine jf _ _ (fun x hx=> ?_) n1
   rcases uu x with⟨k,k1,k2,k3,k4⟩ | k
   · have:=vR x.p;have:=vR x.r
     unfold sF;rw[if_pos k];simp only[ml,dC];omega
   · unfold sF;rw[if_neg (by omega)];simp
 · refine jf _ _ (fun x hx=> ?_) n2
   have:=Jo x.mo (h.aX x hx).1;have:=Jo x.nm (h.aX x hx).2;have:=eg x.ty
   simp only[BV,dC,ml,aeK];omega
 · refine jf _ _ (fun x hx=> ?_) n3
   have:=eg x.ty
   unfold BW;omega
 · refine jf _ _ (fun x hx=> ?_) n4
   have:=Sw 1048576 x
   simp only[BX,dC,ml,aeK];omega
 · refine jf _ _ (fun x hx=> ?_) n5
   have:=Sw 65536 x
   unfold BY;omega
 · refine jf _ _ (fun x hx=> ?_) n6
   have:=oL (h.gls x hx).2
   simp only[BZ,dC,ml,aeK];omega
 · refine jf _ _ (fun x hx=> ?_) n7
   have:=Jo x.nm (h.exs x hx).1;have:=gy x.ix
   simp only[B0,dC,ml,aeK];omega
 · have:=gy M.sn
   split
   · omega
   · simp
 · refine jf _ _ (fun x hx=> ?_) n8
   obtain⟨_,q1,q2,_⟩:=h.els x hx
   have:=oL q1;have:=eg (x.fs.length:Int);have:=Jp eU 5 x.fs fun t _=>gy t
   simp only[EC,dC,ml,aeK];omega
 · refine jf _ _ (fun x hx=> ?_) n3
   have:=ac1 (lo:=x.lo) (h.fns x hx).2;have:=eg ((AA x.lo x.l).length:Int)
   simp only[B2,dC];omega
 · refine jf _ _ (fun x hx=> ?_) n9
   obtain⟨_,q1,q2,_⟩:=h.bp x hx
   have:=oL q1;have:=eg (x.bs.length:Int)
   simp only[B3,dC,ml,aeK,my];omega
 · simp
def Lays (M:Mo) (f:FuncId) (Y:List Nat):Prop:=
 (Y.length=0→az ae bO f [.mp 0 0] [.ac (.os none 0 0 []::mV M)] (.aK []) [.ac (.os none 0 0 []::mV M)]) ∧
 (Y.length≠0→az ae bO f [.mp 0 0] [.ac (.os none 0 0 []::mV M)] (.aK []) [wB M 1 Y.length,gB Y])
theorem bG {α:Type} (l:List α) (e:α→List Nat):(yS l e).length=0↔l.length=0:=by
 have n0:1≤(eV (l.length:Int)).length:=by have:=GW (aeG.wrap (l.length:Int));rw[gH] at this;unfold eV;omega
 unfold yS
 split
 · simp_all
 · rw[dC];omega
theorem GX {M:Mo} (h:M.dB):Lays M 34 (sec M 1):=by
 have hn:M.tys.length≤1000000:=by have:=h.len;omega
 have hb:=dh h 1
 refine⟨fun h0=> ?_,fun h0=> ?_⟩
 · refine aa aH (MZ M 0 []) ?_
   simp only[Gx,aV,aA.ok]
   exact⟨fF M 82 _ ((bG M.tys sF).1 h0),(by first | exact akX | rfl)⟩
 · refine aa aH (M0 M (sec M 1).length (bt (sec M 1))) ?_
   simp only[Gy,aV,aA.ok,bE]
   exact⟨fE M 82 M.tys sF (fun i x hx=>WL M i x hx) hn (fun q=>h0 ((bG M.tys sF).2 q)) (by show(sec M 1).length≤10000000000000;omega),(by first | exact akX | rfl)⟩
theorem GY {M:Mo} (h:M.dB):Lays M 35 (sec M 2):=by
 have hn:M.aX.length≤1000000:=by have:=h.len;omega
 have hb:=dh h 2
 refine⟨fun h0=> ?_,fun h0=> ?_⟩
 · refine aa aH (M1 M 0 []) ?_
   simp only[Gz,aV,aA.ok]
   exact⟨fF M 84 _ ((bG M.aX BV).1 h0),(by first | exact akX | rfl)⟩
 · refine aa aH (M3 M (sec M 2).length (bt (sec M 2))) ?_
   simp only[GA,aV,aA.ok,bE]
   exact⟨fE M 84 M.aX BV (fun i x hx=>WU M i x hx (h.aX x (mv hx)).1 (h.aX x (mv hx)).2) hn (fun q=>h0 ((bG M.aX BV).2 q)) (by show(sec M 2).length≤10000000000000;omega),(by first | exact akX | rfl)⟩
theorem GZ {M:Mo} (h:M.dB):Lays M 36 (sec M 3):=by
 have hn:M.fns.length≤1000000:=by have:=h.len;omega
 have hb:=dh h 3
 refine⟨fun h0=> ?_,fun h0=> ?_⟩
 · refine aa aH (M4 M 0 []) ?_
   simp only[GB,aV,aA.ok]
   exact⟨fF M 86 _ ((bG M.fns BW).1 h0),(by first | exact akX | rfl)⟩
 · refine aa aH (M5 M (sec M 3).length (bt (sec M 3))) ?_
   simp only[GC,aV,aA.ok,bE]
   exact⟨fE M 86 M.fns BW (fun i x hx=>WM M i x hx) hn (fun q=>h0 ((bG M.fns BW).2 q)) (by show(sec M 3).length≤10000000000000;omega),(by first | exact akX | rfl)⟩
theorem G0 {M:Mo} (h:M.dB):Lays M 37 (sec M 4):=by
 have hn:M.b8.length≤1000000:=by have:=h.len;omega
 have hb:=dh h 4
 refine⟨fun h0=> ?_,fun h0=> ?_⟩
 · refine aa aH (M6 M 0 []) ?_
   simp only[GD,aV,aA.ok]
   exact⟨fF M 87 _ ((bG M.b8 BX).1 h0),(by first | exact akX | rfl)⟩
 · refine aa aH (M7 M (sec M 4).length (bt (sec M 4))) ?_
   simp only[GF,aV,aA.ok,bE]
   exact⟨fE M 87 M.b8 BX (fun i x hx=>WN M i x hx (h.b8 x (mv hx))) hn (fun q=>h0 ((bG M.b8 BX).2 q)) (by show(sec M 4).length≤10000000000000;omega),(by first | exact akX | rfl)⟩
theorem G1 {M:Mo} (h:M.dB):Lays M 38 (sec M 5):=by
 have hn:M.b9.length≤1000000:=by have:=h.len;omega
 have hb:=dh h 5
 refine⟨fun h0=> ?_,fun h0=> ?_⟩
 · refine aa aH (M8 M 0 []) ?_
   simp only[GG,aV,aA.ok]
   exact⟨fF M 89 _ ((bG M.b9 BY).1 h0),(by first | exact akX | rfl)⟩
 · refine aa aH (M9 M (sec M 5).length (bt (sec M 5))) ?_
   simp only[GH,aV,aA.ok,bE]
   exact⟨fE M 89 M.b9 BY (fun i x hx=>WO M i x hx (h.b9 x (mv hx))) hn (fun q=>h0 ((bG M.b9 BY).2 q)) (by show(sec M 5).length≤10000000000000;omega),(by first | exact akX | rfl)⟩
theorem G2 {M:Mo} (h:M.dB):Lays M 39 (sec M 6):=by
 have hn:M.gls.length≤1000000:=by have:=h.len;omega
 have hb:=dh h 6
 refine⟨fun h0=> ?_,fun h0=> ?_⟩
 · refine aa aH (Na M 0 []) ?_
   simp only[GI,aV,aA.ok]
   exact⟨fF M 90 _ ((bG M.gls BZ).1 h0),(by first | exact akX | rfl)⟩
 · refine aa aH (Nb M (sec M 6).length (bt (sec M 6))) ?_
   simp only[GJ,aV,aA.ok,bE]
   exact⟨fE M 90 M.gls BZ (fun i x hx=>WQ M i x hx (h.gls x (mv hx)).1 (h.gls x (mv hx)).2) hn (fun q=>h0 ((bG M.gls BZ).2 q)) (by show(sec M 6).length≤10000000000000;omega),(by first | exact akX | rfl)⟩
theorem G3 {M:Mo} (h:M.dB):Lays M 40 (sec M 7):=by
 have hn:M.exs.length≤1000000:=by have:=h.len;omega
 have hb:=dh h 7
 refine⟨fun h0=> ?_,fun h0=> ?_⟩
 · refine aa aH (Nc M 0 []) ?_
   simp only[GK,aV,aA.ok]
   exact⟨fF M 92 _ ((bG M.exs B0).1 h0),(by first | exact akX | rfl)⟩
 · refine aa aH (Nd M (sec M 7).length (bt (sec M 7))) ?_
   simp only[GL,aV,aA.ok,bE]
   exact⟨fE M 92 M.exs B0 (fun i x hx=>WS M i x hx (h.exs x (mv hx)).1 (h.exs x (mv hx)).2) hn (fun q=>h0 ((bG M.exs B0).2 q)) (by show(sec M 7).length≤10000000000000;omega),(by first | exact akX | rfl)⟩
theorem G4 {M:Mo} (h:M.dB):Lays M 42 (sec M 9):=by
 have hn:M.els.length≤1000000:=by have:=h.len;omega
 have hb:=dh h 9
 refine⟨fun h0=> ?_,fun h0=> ?_⟩
 · refine aa aH (Nf M 0 []) ?_
   simp only[GM,aV,aA.ok]
   exact⟨fF M 93 _ ((bG M.els EC).1 h0),(by first | exact akX | rfl)⟩
 · refine aa aH (Ng M (sec M 9).length (bt (sec M 9))) ?_
   simp only[GN,aV,aA.ok,bE]
   exact⟨fE M 93 M.els EC (fun i x hx=>Xl M i x hx (h.els x (mv hx)).1 (h.els x (mv hx)).2.1 (h.els x (mv hx)).2.2.1 (h.els x (mv hx)).2.2.2) hn (fun q=>h0 ((bG M.els EC).2 q)) (by show(sec M 9).length≤10000000000000;omega),(by first | exact akX | rfl)⟩
theorem G5 {M:Mo} (h:M.dB):Lays M 43 (sec M 10):=by
 have hn:M.fns.length≤1000000:=by have:=h.len;omega
 have hb:=dh h 10
 refine⟨fun h0=> ?_,fun h0=> ?_⟩
 · refine aa aH (Nh M 0 []) ?_
   simp only[GO,aV,aA.ok]
   exact⟨fF M 94 _ ((bG M.fns B2).1 h0),(by first | exact akX | rfl)⟩
 · refine aa aH (Ni M (sec M 10).length (bt (sec M 10))) ?_
   simp only[GP,aV,aA.ok,bE]
   exact⟨fE M 94 M.fns B2 (fun i x hx=>WR M i x hx (h.fns x (mv hx)).1 (h.fns x (mv hx)).2) hn (fun q=>h0 ((bG M.fns B2).2 q)) (by show(sec M 10).length≤10000000000000;omega),(by first | exact akX | rfl)⟩
theorem G6 {M:Mo} (h:M.dB):Lays M 44 (sec M 11):=by
 have hn:M.bp.length≤1000000:=by have:=h.len;omega
 have hb:=dh h 11
 refine⟨fun h0=> ?_,fun h0=> ?_⟩
 · refine aa aH (Nj M 0 []) ?_
   simp only[GQ,aV,aA.ok]
   exact⟨fF M 96 _ ((bG M.bp B3).1 h0),(by first | exact akX | rfl)⟩
 · refine aa aH (Nk M (sec M 11).length (bt (sec M 11))) ?_
   simp only[GR,aV,aA.ok,bE]
   exact⟨fE M 96 M.bp B3 (fun i x hx=>WT M i x hx (h.bp x (mv hx)).1 (h.bp x (mv hx)).2.1 (h.bp x (mv hx)).2.2.1 (h.bp x (mv hx)).2.2.2) hn (fun q=>h0 ((bG M.bp B3).2 q)) (by show(sec M 11).length≤10000000000000;omega),(by first | exact akX | rfl)⟩
theorem Lg {M:Mo} (h:M.dB):Lays M 41 (sec M 8):=by
 have bw:aR=70368744177664:=rfl
 have hl:=gy M.sn
 have n0:1≤(eU M.sn).length:=by have:=GW M.sn;rw[gH] at this;omega
 cases hs:M.st with
 |true=>
  have e:sec M 8=eU M.sn:=by simp only[sec,hs,if_true]
  rw[e]
  refine⟨fun q=>absurd q (by omega),fun _=> ?_⟩
  refine aa aH (GS M jW qU) ?_
  simp only[D6,aV,aA.ok,hs,GW,gH,jA,bE,aeJ,ta,Hm,pn,dy,gx,ajQ]
  simp only[di,ajp,ajS,bw]
  exact⟨fun _=>⟨az.vS (iE h.sn),⟨by omega,by omega⟩,trivial,(by first | exact akX | rfl)⟩,fun q=>(by cases q)⟩
 |false=>
  have e:sec M 8=[]:=by simp only[sec,hs,Bool.false_eq_true,if_false]
  rw[e]
  refine⟨fun _=> ?_,fun q=>absurd rfl q⟩
  refine aa aH (GS M jW qU) ?_
  simp only[D6,aV,aA.ok,hs]
  exact⟨fun q=>(by cases q),fun _=>(by first | exact akX | rfl)⟩
end Go.Proofs.YtncncijedmfpjaaGreatDoor.N
end
