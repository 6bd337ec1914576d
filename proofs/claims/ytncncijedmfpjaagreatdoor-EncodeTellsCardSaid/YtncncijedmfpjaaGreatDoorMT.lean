import Derived.Test.YtncncijedmfpjaaGreatDoorMS
open Nat renaming beq→ba,mul_one→ajS,ble_eq→ajp,beq_eq→fi
open Go.IntKind renaming u32→aeG,i64→re,u8→ajw
open List renaming map→aeM,flatMap→ajO,length_append→dC,length_cons→ml,length_nil→aeK,length_map→my,map_append→aeJ,map_cons→s0,map_nil→ta,append_assoc→tl,cons_append→Ps,nil_append→Hm,getElem?_eq_some_iff→dT,map_map→akD
open Go.Proofs.Tryz renaming prog→ae
open Option renaming none→ae1
open Go.Value renaming string→ajZ
open Bool renaming and_eq_true→di,and_true→ajQ,true_and→ajX,and_self→akN,false_eq_true→o0
open Int renaming toNat_natCast→afm
open True renaming intro→akX
open And renaming intro→ags
noncomputable section
section
set_option linter.unusedSimpArgs false
set_option linter.unusedVariables false
namespace Go.Proofs.YtncncijedmfpjaaGreatDoor.N
open Go Go.Am
def tyC (M:Mo) (k i:Nat) (X:List PV) (J:aah) (Q:aal) (p r:Int) (e:Int) (n:Nat) (Z:List PV) (f:FuncId) (args:List AV) (m:Mem):Option (AV×Mem):=cond (ba f 83) (some (.aK [.p (.ps n 1 Z),sI .i64 e],m)) none
def tyD (M:Mo) (k i:Nat) (X:List PV) (J:aah) (Q:aal) (p r:Int) (e:Int) (n:Nat) (Z:List PV) (f:FuncId) (args:List AV) (m:Mem):Option (AV×Mem):=cond (ba f 45) (match args with | [.p (.sc (.int _ n))]=>some (.p (.ps (J n) 1 (Q n)),m) | _=>none) none
def tyS (M:Mo) (k i:Nat) (X:List PV) (J:aah) (Q:aal) (p r:Int) (e:Int) (n:Nat) (Z:List PV):FuncId→Nat→Nat→Option (AV→AV):=bJ [(82,1,7,.agg [sI .i64 p,sI .i64 r])]
def fuC (M:Mo) (k i:Nat) (X:List PV) (J:aah) (Q:aal) (e:Int) (n:Nat) (Z:List PV) (f:FuncId) (args:List AV) (m:Mem):Option (AV×Mem):=cond (ba f 0) (some (.aK [.p (.ps n 1 Z),sI .i64 e],m)) none
def fuD (M:Mo) (k i:Nat) (X:List PV) (J:aah) (Q:aal) (e:Int) (n:Nat) (Z:List PV) (f:FuncId) (args:List AV) (m:Mem):Option (AV×Mem):=cond (ba f 45) (match args with | [.p (.sc (.int _ n))]=>some (.p (.ps (J n) 1 (Q n)),m) | _=>none) none
def taC (M:Mo) (k i:Nat) (X:List PV) (J:aah) (Q:aal) (e:Int) (n:Nat) (Z:List PV) (f:FuncId) (args:List AV) (m:Mem):Option (AV×Mem):=cond (ba f 118) (some (.aK [.p (.ps n 1 Z),sI .i64 e],m)) none
def taD (M:Mo) (k i:Nat) (X:List PV) (J:aah) (Q:aal) (e:Int) (n:Nat) (Z:List PV) (f:FuncId) (args:List AV) (m:Mem):Option (AV×Mem):=cond (ba f 45) (match args with | [.p (.sc (.int _ n))]=>some (.p (.ps (J n) 1 (Q n)),m) | _=>none) none
def meC (M:Mo) (k i:Nat) (X:List PV) (J:aah) (Q:aal) (e:Int) (n:Nat) (Z:List PV) (f:FuncId) (args:List AV) (m:Mem):Option (AV×Mem):=cond (ba f 118) (some (.aK [.p (.ps n 1 Z),sI .i64 e],m)) none
def meD (M:Mo) (k i:Nat) (X:List PV) (J:aah) (Q:aal) (e:Int) (n:Nat) (Z:List PV) (f:FuncId) (args:List AV) (m:Mem):Option (AV×Mem):=cond (ba f 45) (match args with | [.p (.sc (.int _ n))]=>some (.p (.ps (J n) 1 (Q n)),m) | _=>none) none
def glC (M:Mo) (k i:Nat) (X:List PV) (J:aah) (Q:aal) (mu:Bool) (e:Int) (n:Nat) (Z:List PV) (f:FuncId) (args:List AV) (m:Mem):Option (AV×Mem):=cond (ba f 119) (some (.aK [.p (.ps n 1 Z),sI .i64 e],m)) none
def glD (M:Mo) (k i:Nat) (X:List PV) (J:aah) (Q:aal) (mu:Bool) (e:Int) (n:Nat) (Z:List PV) (f:FuncId) (args:List AV) (m:Mem):Option (AV×Mem):=cond (ba f 45) (match args with | [.p (.sc (.int _ n))]=>some (.p (.ps (J n) 1 (Q n)),m) | _=>none) none
def glS (M:Mo) (k i:Nat) (X:List PV) (J:aah) (Q:aal) (mu:Bool) (e:Int) (n:Nat) (Z:List PV):FuncId→Nat→Nat→Option (AV→AV):=bJ [(90,2,8,sB mu)]
def czC (M:Mo) (k i:Nat) (X:List PV) (J:aah) (Q:aal) (lo:Int) (l:List Ins) (e:Int) (n:Nat) (Z:List PV) (f:FuncId) (args:List AV) (m:Mem):Option (AV×Mem):=cond (ba f 95) (some (.aK [.p (.ps n 1 Z),sI .i64 e],m)) none
def czD (M:Mo) (k i:Nat) (X:List PV) (J:aah) (Q:aal) (lo:Int) (l:List Ins) (e:Int) (n:Nat) (Z:List PV) (f:FuncId) (args:List AV) (m:Mem):Option (AV×Mem):=cond (ba f 45) (match args with | [.p (.sc (.int _ n))]=>some (.p (.ps (J n) 1 (Q n)),m) | _=>none) none
def czS (M:Mo) (k i:Nat) (X:List PV) (J:aah) (Q:aal) (lo:Int) (l:List Ins) (e:Int) (n:Nat) (Z:List PV):FuncId→Nat→Nat→Option (AV→AV):=bJ [(94,1,8,.agg [sI .i64 lo,aL l])]
def exC (M:Mo) (k i:Nat) (X:List PV) (J:aah) (Q:aal) (nm:ByteArray) (kd ix:Int) (e:Int) (n:Nat) (Z:List PV) (f:FuncId) (args:List AV) (m:Mem):Option (AV×Mem):=cond (ba f 117) (some (.aK [.p (.ps n 1 Z),sI .i64 e],m)) none
def exD (M:Mo) (k i:Nat) (X:List PV) (J:aah) (Q:aal) (nm:ByteArray) (kd ix:Int) (e:Int) (n:Nat) (Z:List PV) (f:FuncId) (args:List AV) (m:Mem):Option (AV×Mem):=cond (ba f 45) (match args with | [.p (.sc (.int _ n))]=>some (.p (.ps (J n) 1 (Q n)),m) | _=>none) none
def exS (M:Mo) (k i:Nat) (X:List PV) (J:aah) (Q:aal) (nm:ByteArray) (kd ix:Int) (e:Int) (n:Nat) (Z:List PV):FuncId→Nat→Nat→Option (AV→AV):=bJ [(92,1,7,.agg [.p (.sc (.string nm)),sI .i64 kd,sI .u32 ix])]
def elC (M:Mo) (k i:Nat) (X:List PV) (J:aah) (Q:aal) (l:List Ins) (fs:List Int) (e:Int) (n:Nat) (Z:List PV) (f:FuncId) (args:List AV) (m:Mem):Option (AV×Mem):=cond (ba f 119) (some (.aK [.p (.ps n 1 Z),sI .i64 e],m)) none
def elD (M:Mo) (k i:Nat) (X:List PV) (J:aah) (Q:aal) (l:List Ins) (fs:List Int) (e:Int) (n:Nat) (Z:List PV) (f:FuncId) (args:List AV) (m:Mem):Option (AV×Mem):=cond (ba f 45) (match args with | [.p (.sc (.int _ n))]=>some (.p (.ps (J n) 1 (Q n)),m) | _=>none) none
def elS (M:Mo) (k i:Nat) (X:List PV) (J:aah) (Q:aal) (l:List Ins) (fs:List Int) (e:Int) (n:Nat) (Z:List PV):FuncId→Nat→Nat→Option (AV→AV):=bJ [(93,1,7,.agg [aL l,.p (.ps fs.length 1 (bN .u32 fs))])]
def daC (M:Mo) (k i:Nat) (X:List PV) (J:aah) (Q:aal) (l:List Ins) (bs:List Int) (e:Int) (n:Nat) (Z:List PV) (f:FuncId) (args:List AV) (m:Mem):Option (AV×Mem):=cond (ba f 119) (some (.aK [.p (.ps n 1 Z),sI .i64 e],m)) none
def daD (M:Mo) (k i:Nat) (X:List PV) (J:aah) (Q:aal) (l:List Ins) (bs:List Int) (e:Int) (n:Nat) (Z:List PV) (f:FuncId) (args:List AV) (m:Mem):Option (AV×Mem):=cond (ba f 45) (match args with | [.p (.sc (.int _ n))]=>some (.p (.ps (J n) 1 (Q n)),m) | _=>none) none
def daS (M:Mo) (k i:Nat) (X:List PV) (J:aah) (Q:aal) (l:List Ins) (bs:List Int) (e:Int) (n:Nat) (Z:List PV):FuncId→Nat→Nat→Option (AV→AV):=bJ [(96,1,7,.agg [aL l,.p (.ps bs.length 1 (bN .u8 bs))])]
def imC (M:Mo) (k i:Nat) (X:List PV) (J:aah) (Q:aal) (mo nm:ByteArray) (ty:Int) (EN:ByteArray→Int) (JN:aaI) (QN:abs) (e:Int) (n:Nat) (Z:List PV) (f:FuncId) (args:List AV) (m:Mem):Option (AV×Mem):=cond (ba f 117) ((match args with | [.p (.sc (.string s))]=>some (.aK [.p (.ps (JN s) 1 (QN s)),sI .i64 (EN s)],m) | _=>none)) none
def imD (M:Mo) (k i:Nat) (X:List PV) (J:aah) (Q:aal) (mo nm:ByteArray) (ty:Int) (EN:ByteArray→Int) (JN:aaI) (QN:abs) (e:Int) (n:Nat) (Z:List PV) (f:FuncId) (args:List AV) (m:Mem):Option (AV×Mem):=cond (ba f 45) (match args with | [.p (.sc (.int _ n))]=>some (.p (.ps (J n) 1 (Q n)),m) | _=>none) none
def imS (M:Mo) (k i:Nat) (X:List PV) (J:aah) (Q:aal) (mo nm:ByteArray) (ty:Int) (EN:ByteArray→Int) (JN:aaI) (QN:abs) (e:Int) (n:Nat) (Z:List PV):FuncId→Nat→Nat→Option (AV→AV):=bJ [(84,1,7,.agg [.p (.sc (.string mo)),.p (.sc (.string nm)),sI .i64 ty])]
def emD (M:Mo) (k j:Nat) (X:List PV) (J:aah) (Q:aal) (fs:List Int) (t:Int) (f:FuncId) (args:List AV) (m:Mem):Option (AV×Mem):=cond (ba f 45) (match args with | [.p (.sc (.int _ n))]=>some (.p (.ps (J n) 1 (Q n)),m) | _=>none) none
def emS (M:Mo) (k j:Nat) (X:List PV) (J:aah) (Q:aal) (fs:List Int) (t:Int):FuncId→Nat→Nat→Option (AV→AV):=bJ [(93,7,1,sI .u32 t),(93,9,0,sI .i64 ((j+1:Nat):Int))]
def ahQ (M:Mo) (k:Nat) (i:Nat) (X:List PV) (J:aah) (Q:aal) (p r e:Int) (n:Nat) (Z:List PV):bA:=dY (tyC M k i X J Q p r e n Z) (tyD M k i X J Q p r e n Z) [] [] [(82,1,6),(82,1,7),(19,1,5)] (tyS M k i X J Q p r e n Z)
def alT:Sc:= .fin
def Sy (M:Mo) (k:Nat) (i:Nat) (X:List PV) (J:aah) (Q:aal) (p r e:Int) (n:Nat) (Z:List PV):aA:=
 (.must (aP (↑i:Int) M.tys.length&&true&&true)
 (.must (isInt re (aq (ajO bK M.tys) (aB i*2))&&(isInt re (aq (ajO bK M.tys) (aB i*2+1))&&true)&&true)
 (.need (AV.agg [sI .i64 (au (aq (ajO bK M.tys) (aB i*2))),sI .i64 (au (aq (ajO bK M.tys) (aB i*2+1)))]=AV.agg [sI re p,sI re r])
 (.call ⟨83,[.agg [sI .i64 p,sI .i64 r]],[],.aK [.p (.ps n 1 Z),sI .i64 e],[]⟩
 (.must (((k+n)*1).ble aR&&(k+n).ble aR&&((k*1).beq (aeM av (aeM AV.p X)).length&&allBy (aeM AV.p Z))&&true)
 (.out (.ret (.aK []) [.ac [.mp 1 0],.ac (.ms 3 0 (k+n) 1 none::mV M),.dead,.ob (dS.gb 5) (aeM av (aeM av (aeM av (aeM av (aeM AV.p X)++aeM AV.p Z))))])))))))
theorem WA (M:Mo) (k:Nat) (i:Nat) (X:List PV) (J:aah) (Q:aal) (p r e:Int) (n:Nat) (Z:List PV):aI ae bO (ahQ M k i X J Q p r e n Z) 1000000 82 ([sI re (↑i:Int),AV.mp 0 0]) ([bq.ac [AV.mp 1 0],bq.ac (AV.ms 2 0 k 1 ae1::mV M),bq.ob (dS.gb 5) (aeM AV.p X)]) alT=Sy M k i X J Q p r e n Z:=by kernel_rfl
def ahR (M:Mo) (k:Nat) (i:Nat) (X:List PV) (J:aah) (Q:aal) (e:Int) (n:Nat) (Z:List PV):bA:=aM (fuC M k i X J Q e n Z) (fuD M k i X J Q e n Z) [] [] [(86,0,0),(20,0,0)]
def alU:Sc:= .fin
def Sz (M:Mo) (k:Nat) (i:Nat) (X:List PV) (J:aah) (Q:aal) (e:Int) (n:Nat) (Z:List PV):aA:=
 (.must (aP (↑i:Int) M.fns.length&&true&&true&&(isInt re (aq (ajO aG M.fns) (aB i*3+0))&&true&&true)&&true)
 (.call ⟨45,[sI .u32 (aeG.wrap (au (aq (ajO aG M.fns) (aB i*3+0))))],[],.p (.ps (J (aeG.wrap (au (aq (ajO aG M.fns) (aB i*3+0))))) 1 (Q (aeG.wrap (au (aq (ajO aG M.fns) (aB i*3+0)))))),[]⟩
 (.must (((k+J (aeG.wrap (au (aq (ajO aG M.fns) (aB i*3+0)))))*1).ble aR&&(k+J (aeG.wrap (au (aq (ajO aG M.fns) (aB i*3+0))))).ble aR&&((k*1).beq (aeM av (aeM AV.p X)).length&&allBy (aeM AV.p (Q (aeG.wrap (au (aq (ajO aG M.fns) (aB i*3+0)))))))&&true&&true&&true)
 (.must true
 (.must true
 (.out (.ret (.aK []) [.ac [.mp 1 0],.ac (.ms 3 0 (k+J (aeG.wrap (au (aq (ajO aG M.fns) (aB i*3+0))))) 1 none::mV M),.dead,.ob (dS.gb 5) (aeM av (aeM av (aeM av (aeM av (aeM AV.p X)++aeM AV.p (Q (aeG.wrap (au (aq (ajO aG M.fns) (aB i*3+0)))))))))])))))))
theorem WB (M:Mo) (k:Nat) (i:Nat) (X:List PV) (J:aah) (Q:aal) (e:Int) (n:Nat) (Z:List PV):aI ae bO (ahR M k i X J Q e n Z) 1000000 86 ([sI re (↑i:Int),AV.mp 0 0]) ([bq.ac [AV.mp 1 0],bq.ac (AV.ms 2 0 k 1 ae1::mV M),bq.ob (dS.gb 5) (aeM AV.p X)]) alU=Sz M k i X J Q e n Z:=by kernel_rfl
def ahS (M:Mo) (k:Nat) (i:Nat) (X:List PV) (J:aah) (Q:aal) (e:Int) (n:Nat) (Z:List PV):bA:=aM (taC M k i X J Q e n Z) (taD M k i X J Q e n Z) [] [] [(19,1,5),(87,0,0),(88,3,5)]
def alV:Sc:= .fin
def SA (M:Mo) (k:Nat) (i:Nat) (X:List PV) (J:aah) (Q:aal) (e:Int) (n:Nat) (Z:List PV):aA:=
 (.must (((k+1)*1).ble aR&&(k+1).ble aR&&((k*1).beq (aeM av (aeM AV.p X)).length&&true)&&true)
 (.must (aP (↑i:Int) M.b8.length&&true&&true&&(isInt aeG (aq (ajO aF M.b8) (aB i*3))&&(isInt aeG (aq (ajO aF M.b8) (aB i*3+1))&&(isBool (aq (ajO aF M.b8) (aB i*3+1+1))&&true))&&true&&true)&&true)
 (.call ⟨118,[.agg [sI .u32 (au (aq (ajO aF M.b8) (aB i*3))),sI .u32 (au (aq (ajO aF M.b8) (aB i*3+1))),.p (.sc (.bool (bf (aq (ajO aF M.b8) (aB i*3+1+1)))))],sI .u32 1048576],[],.aK [.p (.ps n 1 Z),sI .i64 e],[]⟩
 (.must (((k+1+n)*1).ble aR&&(k+1+n).ble aR&&(((k+1)*1).beq (aeM av (aeM av (aeM av (aeM av (aeM AV.p X)++[sI .u8 112])))).length&&allBy (aeM AV.p Z))&&true)
 (.must true
 (.out (.ret (.aK []) [.ac [.mp 1 0],.ac (.ms 3 0 (k+1+n) 1 none::mV M),.dead,.ob (dS.gb 5) (aeM av (aeM av (aeM av (aeM av (aeM av (aeM av (aeM av (aeM AV.p X)++[sI .u8 112])))++aeM AV.p Z))))])))))))
theorem WC (M:Mo) (k:Nat) (i:Nat) (X:List PV) (J:aah) (Q:aal) (e:Int) (n:Nat) (Z:List PV):aI ae bO (ahS M k i X J Q e n Z) 1000000 87 ([sI re (↑i:Int),AV.mp 0 0]) ([bq.ac [AV.mp 1 0],bq.ac (AV.ms 2 0 k 1 ae1::mV M),bq.ob (dS.gb 5) (aeM AV.p X)]) alV=SA M k i X J Q e n Z:=by kernel_rfl
def ahT (M:Mo) (k:Nat) (i:Nat) (X:List PV) (J:aah) (Q:aal) (e:Int) (n:Nat) (Z:List PV):bA:=aM (meC M k i X J Q e n Z) (meD M k i X J Q e n Z) [] [] [(89,0,0),(88,3,5)]
def alW:Sc:= .fin
def SB (M:Mo) (k:Nat) (i:Nat) (X:List PV) (J:aah) (Q:aal) (e:Int) (n:Nat) (Z:List PV):aA:=
 (.must (aP (↑i:Int) M.b9.length&&true&&true&&(isInt aeG (aq (ajO aF M.b9) (aB i*3))&&(isInt aeG (aq (ajO aF M.b9) (aB i*3+1))&&(isBool (aq (ajO aF M.b9) (aB i*3+1+1))&&true))&&true&&true)&&true)
 (.call ⟨118,[.agg [sI .u32 (au (aq (ajO aF M.b9) (aB i*3))),sI .u32 (au (aq (ajO aF M.b9) (aB i*3+1))),.p (.sc (.bool (bf (aq (ajO aF M.b9) (aB i*3+1+1)))))],sI .u32 65536],[],.aK [.p (.ps n 1 Z),sI .i64 e],[]⟩
 (.must (((k+n)*1).ble aR&&(k+n).ble aR&&((k*1).beq (aeM av (aeM AV.p X)).length&&allBy (aeM AV.p Z))&&true)
 (.must true
 (.out (.ret (.aK []) [.ac [.mp 1 0],.ac (.ms 3 0 (k+n) 1 none::mV M),.dead,.ob (dS.gb 5) (aeM av (aeM av (aeM av (aeM av (aeM AV.p X)++aeM AV.p Z))))]))))))
theorem WD (M:Mo) (k:Nat) (i:Nat) (X:List PV) (J:aah) (Q:aal) (e:Int) (n:Nat) (Z:List PV):aI ae bO (ahT M k i X J Q e n Z) 1000000 89 ([sI re (↑i:Int),AV.mp 0 0]) ([bq.ac [AV.mp 1 0],bq.ac (AV.ms 2 0 k 1 ae1::mV M),bq.ob (dS.gb 5) (aeM AV.p X)]) alW=SB M k i X J Q e n Z:=by kernel_rfl
def ahU (M:Mo) (k:Nat) (i:Nat) (X:List PV) (J:aah) (Q:aal) (mu:Bool) (e:Int) (n:Nat) (Z:List PV):bA:=dY (glC M k i X J Q mu e n Z) (glD M k i X J Q mu e n Z) [] [(90,0,0)] [(90,2,6),(90,2,8),(19,1,5),(90,0,1),(91,2,5)] (glS M k i X J Q mu e n Z)
def alX:Sc:= .fin
def SC (M:Mo) (k:Nat) (i:Nat) (X:List PV) (J:aah) (Q:aal) (mu:Bool) (e:Int) (n:Nat) (Z:List PV):aA:=
 (.must (aP (↑i:Int) M.gls.length&&true&&true)
 (.must (isBool (aq (ajO bn M.gls) (aB i*2+0))&&true)
 (.need (AV.p (PV.sc (Value.bool (bf (aq (ajO bn M.gls) (aB i*2+0)))))=sB mu)
 (.test (mu)
 (.must (((k+2)*1).ble aR&&(k+2).ble aR&&((k*1).beq (aeM av (aeM AV.p X)).length&&true)&&true)
 (.must (aP (↑i:Int) M.gls.length&&true&&true&&(aO (aq (ajO bn M.gls) (aB i*2+1))&&true&&true)&&true)
 (.call ⟨119,[.p (.ps (an (aq (ajO bn M.gls) (aB i*2+1))) (aD (aq (ajO bn M.gls) (aB i*2+1))) (ak (aq (ajO bn M.gls) (aB i*2+1))))],[],.aK [.p (.ps n 1 Z),sI .i64 e],[]⟩
 (.must (((k+2+n)*1).ble aR&&(k+2+n).ble aR&&(((k+2)*1).beq (aeM av (aeM av (aeM av (aeM av (aeM AV.p X)++[sI .u8 127,sI .u8 1])))).length&&allBy (aeM AV.p Z))&&true)
 (.out (.ret (.aK []) [.ac [.mp 1 0],.ac (.ms 3 0 (k+2+n) 1 none::mV M),.dead,.ob (dS.gb 5) (aeM av (aeM av (aeM av (aeM av (aeM av (aeM av (aeM av (aeM AV.p X)++[sI .u8 127,sI .u8 1])))++aeM AV.p Z))))]))))))
 (.must (((k+2)*1).ble aR&&(k+2).ble aR&&((k*1).beq (aeM av (aeM AV.p X)).length&&true)&&true)
 (.must (aP (↑i:Int) M.gls.length&&true&&true&&(aO (aq (ajO bn M.gls) (aB i*2+1))&&true&&true)&&true)
 (.call ⟨119,[.p (.ps (an (aq (ajO bn M.gls) (aB i*2+1))) (aD (aq (ajO bn M.gls) (aB i*2+1))) (ak (aq (ajO bn M.gls) (aB i*2+1))))],[],.aK [.p (.ps n 1 Z),sI .i64 e],[]⟩
 (.must (((k+2+n)*1).ble aR&&(k+2+n).ble aR&&(((k+2)*1).beq (aeM av (aeM av (aeM av (aeM av (aeM AV.p X)++[sI .u8 127,sI .u8 0])))).length&&allBy (aeM AV.p Z))&&true)
 (.out (.ret (.aK []) [.ac [.mp 1 0],.ac (.ms 3 0 (k+2+n) 1 none::mV M),.dead,.ob (dS.gb 5) (aeM av (aeM av (aeM av (aeM av (aeM av (aeM av (aeM av (aeM AV.p X)++[sI .u8 127,sI .u8 0])))++aeM AV.p Z))))]))))))))))
theorem WE (M:Mo) (k:Nat) (i:Nat) (X:List PV) (J:aah) (Q:aal) (mu:Bool) (e:Int) (n:Nat) (Z:List PV):aI ae bO (ahU M k i X J Q mu e n Z) 1000000 90 ([sI re (↑i:Int),AV.mp 0 0]) ([bq.ac [AV.mp 1 0],bq.ac (AV.ms 2 0 k 1 ae1::mV M),bq.ob (dS.gb 5) (aeM AV.p X)]) alX=SC M k i X J Q mu e n Z:=by kernel_rfl
def ahV (M:Mo) (k:Nat) (i:Nat) (X:List PV) (J:aah) (Q:aal) (lo:Int) (l:List Ins) (e:Int) (n:Nat) (Z:List PV):bA:=dY (czC M k i X J Q lo l e n Z) (czD M k i X J Q lo l e n Z) [] [] [(94,1,6),(94,1,8),(20,0,0),(19,1,5)] (czS M k i X J Q lo l e n Z)
def alY:Sc:= .fin
def SD (M:Mo) (k:Nat) (i:Nat) (X:List PV) (J:aah) (Q:aal) (lo:Int) (l:List Ins) (e:Int) (n:Nat) (Z:List PV):aA:=
 (.must (aP (↑i:Int) M.fns.length&&true&&true)
 (.must (isInt re (aq (ajO aG M.fns) (aB i*3+1))&&(aO (aq (ajO aG M.fns) (aB i*3+1+1))&&true)&&true)
 (.need (AV.agg [sI .i64 (au (aq (ajO aG M.fns) (aB i*3+1))),AV.p (PV.ps (an (aq (ajO aG M.fns) (aB i*3+1+1))) (aD (aq (ajO aG M.fns) (aB i*3+1+1))) (ak (aq (ajO aG M.fns) (aB i*3+1+1))))]=AV.agg [sI re lo,aL l])
 (.call ⟨95,[.agg [sI .i64 lo,.p (.ps l.length 8 (aj l))]],[],.aK [.p (.ps n 1 Z),sI .i64 e],[]⟩
 (.call ⟨45,[sI .u32 (aeG.wrap (↑n:Int))],[],.p (.ps (J (aeG.wrap (↑n:Int))) 1 (Q (aeG.wrap (↑n:Int)))),[]⟩
 (.must (((k+J (aeG.wrap (↑n:Int)))*1).ble aR&&(k+J (aeG.wrap (↑n:Int))).ble aR&&((k*1).beq (aeM av (aeM AV.p X)).length&&allBy (aeM AV.p (Q (aeG.wrap (↑n:Int)))))&&true&&true&&true)
 (.must true
 (.must (((k+J (aeG.wrap (↑n:Int))+n)*1).ble aR&&(k+J (aeG.wrap (↑n:Int))+n).ble aR&&(((k+J (aeG.wrap (↑n:Int)))*1).beq (aeM av (aeM av (aeM av (aeM av (aeM AV.p X)++aeM AV.p (Q (aeG.wrap (↑n:Int))))))).length&&allBy (aeM AV.p Z))&&true)
 (.out (.ret (.aK []) [.ac [.mp 1 0],.ac (.ms 3 0 (k+J (aeG.wrap (↑n:Int))+n) 1 none::mV M),.dead,.ob (dS.gb 5) (aeM av (aeM av (aeM av (aeM av (aeM av (aeM av (aeM av (aeM AV.p X)++aeM AV.p (Q (aeG.wrap (↑n:Int))))))++aeM AV.p Z))))]))))))))))
theorem WG (M:Mo) (k:Nat) (i:Nat) (X:List PV) (J:aah) (Q:aal) (lo:Int) (l:List Ins) (e:Int) (n:Nat) (Z:List PV):aI ae bO (ahV M k i X J Q lo l e n Z) 1000000 94 ([sI re (↑i:Int),AV.mp 0 0]) ([bq.ac [AV.mp 1 0],bq.ac (AV.ms 2 0 k 1 ae1::mV M),bq.ob (dS.gb 5) (aeM AV.p X)]) alY=SD M k i X J Q lo l e n Z:=by kernel_rfl
def ahW (M:Mo) (k:Nat) (i:Nat) (X:List PV) (J:aah) (Q:aal) (nm:ByteArray) (kd ix e:Int) (n:Nat) (Z:List PV):bA:=dY (exC M k i X J Q nm kd ix e n Z) (exD M k i X J Q nm kd ix e n Z) [] [] [(92,1,6),(92,1,7),(85,2,5),(19,1,5),(20,0,0)] (exS M k i X J Q nm kd ix e n Z)
def alZ:Sc:= .fin
def SE (M:Mo) (k:Nat) (i:Nat) (X:List PV) (J:aah) (Q:aal) (nm:ByteArray) (kd ix e:Int) (n:Nat) (Z:List PV):aA:=
 (.must (aP (↑i:Int) M.exs.length&&true&&true)
 (.must (isStr (aq (ajO bu M.exs) (aB i*3))&&(isInt re (aq (ajO bu M.exs) (aB i*3+1))&&(isInt aeG (aq (ajO bu M.exs) (aB i*3+1+1))&&true))&&true)
 (.need (AV.agg [AV.p (PV.sc (ajZ (bg (aq (ajO bu M.exs) (aB i*3))))),sI .i64 (au (aq (ajO bu M.exs) (aB i*3+1))),sI .u32 (au (aq (ajO bu M.exs) (aB i*3+1+1)))]=AV.agg [AV.p (PV.sc (ajZ nm)),sI re kd,sI aeG ix])
 (.call ⟨117,[.p (.sc (.string nm))],[],.aK [.p (.ps n 1 Z),sI .i64 e],[]⟩
 (.must (((k+n)*1).ble aR&&(k+n).ble aR&&((k*1).beq (aeM av (aeM AV.p X)).length&&allBy (aeM AV.p Z))&&true)
 (.must (((k+n+1)*1).ble aR&&(k+n+1).ble aR&&(((k+n)*1).beq (aeM av (aeM av (aeM av (aeM av (aeM AV.p X)++aeM AV.p Z)))).length&&true)&&true)
 (.call ⟨45,[sI .u32 ix],[],.p (.ps (J ix) 1 (Q ix)),[]⟩
 (.must (((k+n+1+J ix)*1).ble aR&&(k+n+1+J ix).ble aR&&(((k+n+1)*1).beq (aeM av (aeM av (aeM av (aeM av (aeM av (aeM av (aeM av (aeM AV.p X)++aeM AV.p Z)))++[sI .u8 (ajw.wrap kd)])))).length&&allBy (aeM AV.p (Q ix)))&&true&&true&&true)
 (.must true
 (.out (.ret (.aK []) [.ac [.mp 1 0],.ac (.ms 3 0 (k+n+1+J ix) 1 none::mV M),.dead,.ob (dS.gb 5) (aeM av (aeM av (aeM av (aeM av (aeM av (aeM av (aeM av (aeM av (aeM av (aeM av (aeM AV.p X)++aeM AV.p Z)))++[sI .u8 (ajw.wrap kd)])))++aeM AV.p (Q ix)))))])))))))))))
theorem WH (M:Mo) (k:Nat) (i:Nat) (X:List PV) (J:aah) (Q:aal) (nm:ByteArray) (kd ix e:Int) (n:Nat) (Z:List PV):aI ae bO (ahW M k i X J Q nm kd ix e n Z) 1000000 92 ([sI re (↑i:Int),AV.mp 0 0]) ([bq.ac [AV.mp 1 0],bq.ac (AV.ms 2 0 k 1 ae1::mV M),bq.ob (dS.gb 5) (aeM AV.p X)]) alZ=SE M k i X J Q nm kd ix e n Z:=by kernel_rfl
def ahX (M:Mo) (k:Nat) (i:Nat) (X:List PV) (J:aah) (Q:aal) (l:List Ins) (fs:List Int) (e:Int) (n:Nat) (Z:List PV):bA:=dY (elC M k i X J Q l fs e n Z) (elD M k i X J Q l fs e n Z) [(93,0)] [] [(93,1,6),(93,1,7),(19,1,5),(91,2,5),(20,0,0)] (elS M k i X J Q l fs e n Z)
def al0:Sc:= .fin
def SF (M:Mo) (k:Nat) (i:Nat) (X:List PV) (J:aah) (Q:aal) (l:List Ins) (fs:List Int) (e:Int) (n:Nat) (Z:List PV):aA:=
 (.must (aP (↑i:Int) M.els.length&&true&&true)
 (.must (aO (aq (ajO aN M.els) (aB i*2))&&(aO (aq (ajO aN M.els) (aB i*2+1))&&true)&&true)
 (.need (AV.agg [AV.p (PV.ps (an (aq (ajO aN M.els) (aB i*2))) (aD (aq (ajO aN M.els) (aB i*2))) (ak (aq (ajO aN M.els) (aB i*2)))),AV.p (PV.ps (an (aq (ajO aN M.els) (aB i*2+1))) (aD (aq (ajO aN M.els) (aB i*2+1))) (ak (aq (ajO aN M.els) (aB i*2+1))))]=AV.agg [aL l,AV.p (PV.ps fs.length 1 (bN aeG fs))])
 (.must (((k+1)*1).ble aR&&(k+1).ble aR&&((k*1).beq (aeM av (aeM AV.p X)).length&&true)&&true)
 (.call ⟨119,[.p (.ps l.length 8 (aj l))],[],.aK [.p (.ps n 1 Z),sI .i64 e],[]⟩
 (.must (((k+1+n)*1).ble aR&&(k+1+n).ble aR&&(((k+1)*1).beq (aeM av (aeM av (aeM av (aeM av (aeM AV.p X)++[sI .u8 0])))).length&&allBy (aeM AV.p Z))&&true)
 (.call ⟨45,[sI .u32 (aeG.wrap (↑fs.length:Int))],[],.p (.ps (J (aeG.wrap (↑fs.length:Int))) 1 (Q (aeG.wrap (↑fs.length:Int)))),[]⟩
 (.must (((k+1+n+J (aeG.wrap (↑fs.length:Int)))*1).ble aR&&(k+1+n+J (aeG.wrap (↑fs.length:Int))).ble aR&&(((k+1+n)*1).beq (aeM av (aeM av (aeM av (aeM av (aeM av (aeM av (aeM av (aeM AV.p X)++[sI .u8 0])))++aeM AV.p Z)))).length&&allBy (aeM AV.p (Q (aeG.wrap (↑fs.length:Int)))))&&true&&true&&true)
 (.must true
 (.at (ah ae bO 93 0 [.mp 0 0,.p (.ps fs.length 1 (bN aeG fs)),sI .i64 (↑fs.length:Int),sI .i64 0] ([.ac [.mp 1 0],.ac (.ms 3 0 (k+1+n+J (aeG.wrap (↑fs.length:Int))) 1 none::mV M),.dead,.ob (dS.gb 5) (aeM av (aeM av (aeM av (aeM av (aeM av (aeM av (aeM av (aeM av (aeM av (aeM av (aeM AV.p X)++[sI .u8 0])))++aeM AV.p Z)))++aeM AV.p (Q (aeG.wrap (↑fs.length:Int)))))))]) 3 46)))))))))))
theorem WI (M:Mo) (k:Nat) (i:Nat) (X:List PV) (J:aah) (Q:aal) (l:List Ins) (fs:List Int) (e:Int) (n:Nat) (Z:List PV):aI ae bO (ahX M k i X J Q l fs e n Z) 1000000 93 ([sI re (↑i:Int),AV.mp 0 0]) ([bq.ac [AV.mp 1 0],bq.ac (AV.ms 2 0 k 1 ae1::mV M),bq.ob (dS.gb 5) (aeM AV.p X)]) al0=SF M k i X J Q l fs e n Z:=by kernel_rfl
def ahY (M:Mo) (k:Nat) (i:Nat) (X:List PV) (J:aah) (Q:aal) (l:List Ins) (bs:List Int) (e:Int) (n:Nat) (Z:List PV):bA:=dY (daC M k i X J Q l bs e n Z) (daD M k i X J Q l bs e n Z) [] [] [(96,1,6),(96,1,7),(19,1,5),(91,2,5),(20,0,0)] (daS M k i X J Q l bs e n Z)
def al1:Sc:= .fin
def SG (M:Mo) (k:Nat) (i:Nat) (X:List PV) (J:aah) (Q:aal) (l:List Ins) (bs:List Int) (e:Int) (n:Nat) (Z:List PV):aA:=
 (.must (aP (↑i:Int) M.bp.length&&true&&true)
 (.must (aO (aq (ajO aZ M.bp) (aB i*2))&&(aO (aq (ajO aZ M.bp) (aB i*2+1))&&true)&&true)
 (.need (AV.agg [AV.p (PV.ps (an (aq (ajO aZ M.bp) (aB i*2))) (aD (aq (ajO aZ M.bp) (aB i*2))) (ak (aq (ajO aZ M.bp) (aB i*2)))),AV.p (PV.ps (an (aq (ajO aZ M.bp) (aB i*2+1))) (aD (aq (ajO aZ M.bp) (aB i*2+1))) (ak (aq (ajO aZ M.bp) (aB i*2+1))))]=AV.agg [aL l,AV.p (PV.ps bs.length 1 (bN ajw bs))])
 (.must (((k+1)*1).ble aR&&(k+1).ble aR&&((k*1).beq (aeM av (aeM AV.p X)).length&&true)&&true)
 (.call ⟨119,[.p (.ps l.length 8 (aj l))],[],.aK [.p (.ps n 1 Z),sI .i64 e],[]⟩
 (.must (((k+1+n)*1).ble aR&&(k+1+n).ble aR&&(((k+1)*1).beq (aeM av (aeM av (aeM av (aeM av (aeM AV.p X)++[sI .u8 0])))).length&&allBy (aeM AV.p Z))&&true)
 (.call ⟨45,[sI .u32 (aeG.wrap (↑bs.length:Int))],[],.p (.ps (J (aeG.wrap (↑bs.length:Int))) 1 (Q (aeG.wrap (↑bs.length:Int)))),[]⟩
 (.must (((k+1+n+J (aeG.wrap (↑bs.length:Int)))*1).ble aR&&(k+1+n+J (aeG.wrap (↑bs.length:Int))).ble aR&&(((k+1+n)*1).beq (aeM av (aeM av (aeM av (aeM av (aeM av (aeM av (aeM av (aeM AV.p X)++[sI .u8 0])))++aeM AV.p Z)))).length&&allBy (aeM AV.p (Q (aeG.wrap (↑bs.length:Int)))))&&true&&true&&true)
 (.must true
 (.must (((k+1+n+J (aeG.wrap (↑bs.length:Int))+bs.length)*1).ble aR&&(k+1+n+J (aeG.wrap (↑bs.length:Int))+bs.length).ble aR&&(((k+1+n+J (aeG.wrap (↑bs.length:Int)))*1).beq (aeM av (aeM av (aeM av (aeM av (aeM av (aeM av (aeM av (aeM av (aeM av (aeM av (aeM AV.p X)++[sI .u8 0])))++aeM AV.p Z)))++aeM AV.p (Q (aeG.wrap (↑bs.length:Int))))))).length&&allBy (aeM AV.p (bN ajw bs)))&&true)
 (.out (.ret (.aK []) [.ac [.mp 1 0],.ac (.ms 3 0 (k+1+n+J (aeG.wrap (↑bs.length:Int))+bs.length) 1 none::mV M),.dead,.ob (dS.gb 5) (aeM av (aeM av (aeM av (aeM av (aeM av (aeM av (aeM av (aeM av (aeM av (aeM av (aeM av (aeM av (aeM av (aeM AV.p X)++[sI .u8 0])))++aeM AV.p Z)))++aeM AV.p (Q (aeG.wrap (↑bs.length:Int))))))++aeM AV.p (bN ajw bs)))))]))))))))))))
theorem WJ (M:Mo) (k:Nat) (i:Nat) (X:List PV) (J:aah) (Q:aal) (l:List Ins) (bs:List Int) (e:Int) (n:Nat) (Z:List PV):aI ae bO (ahY M k i X J Q l bs e n Z) 1000000 96 ([sI re (↑i:Int),AV.mp 0 0]) ([bq.ac [AV.mp 1 0],bq.ac (AV.ms 2 0 k 1 ae1::mV M),bq.ob (dS.gb 5) (aeM AV.p X)]) al1=SG M k i X J Q l bs e n Z:=by kernel_rfl
def ahZ (M:Mo) (k:Nat) (i:Nat) (X:List PV) (J:aah) (Q:aal) (mo:ByteArray) (nm:ByteArray) (ty:Int) (EN:ByteArray→Int) (JN:aaI) (QN:abs) (e:Int) (n:Nat) (Z:List PV):bA:=dY (imC M k i X J Q mo nm ty EN JN QN e n Z) (imD M k i X J Q mo nm ty EN JN QN e n Z) [] [] [(84,1,6),(84,1,7),(85,2,5),(19,1,5),(20,0,0)] (imS M k i X J Q mo nm ty EN JN QN e n Z)
def al2:Sc:= .fin
def SH (M:Mo) (k:Nat) (i:Nat) (X:List PV) (J:aah) (Q:aal) (mo:ByteArray) (nm:ByteArray) (ty:Int) (EN:ByteArray→Int) (JN:aaI) (QN:abs) (e:Int) (n:Nat) (Z:List PV):aA:=
 (.must (aP (↑i:Int) M.aX.length&&true&&true)
 (.must (isStr (aq (ajO bh M.aX) (aB i*3))&&(isStr (aq (ajO bh M.aX) (aB i*3+1))&&(isInt re (aq (ajO bh M.aX) (aB i*3+1+1))&&true))&&true)
 (.need (AV.agg [AV.p (PV.sc (ajZ (bg (aq (ajO bh M.aX) (aB i*3))))),AV.p (PV.sc (ajZ (bg (aq (ajO bh M.aX) (aB i*3+1))))),sI .i64 (au (aq (ajO bh M.aX) (aB i*3+1+1)))]=AV.agg [AV.p (PV.sc (ajZ mo)),AV.p (PV.sc (ajZ nm)),sI re ty])
 (.call ⟨117,[.p (.sc (.string mo))],[],.aK [.p (.ps (JN mo) 1 (QN mo)),sI .i64 (EN mo)],[]⟩
 (.must (((k+JN mo)*1).ble aR&&(k+JN mo).ble aR&&((k*1).beq (aeM av (aeM AV.p X)).length&&allBy (aeM AV.p (QN mo)))&&true)
 (.call ⟨117,[.p (.sc (.string nm))],[],.aK [.p (.ps (JN nm) 1 (QN nm)),sI .i64 (EN nm)],[]⟩
 (.must (((k+JN mo+JN nm)*1).ble aR&&(k+JN mo+JN nm).ble aR&&(((k+JN mo)*1).beq (aeM av (aeM av (aeM av (aeM av (aeM AV.p X)++aeM AV.p (QN mo))))).length&&allBy (aeM AV.p (QN nm)))&&true)
 (.must (((k+JN mo+JN nm+1)*1).ble aR&&(k+JN mo+JN nm+1).ble aR&&(((k+JN mo+JN nm)*1).beq (aeM av (aeM av (aeM av (aeM av (aeM av (aeM av (aeM av (aeM AV.p X)++aeM AV.p (QN mo))))++aeM AV.p (QN nm))))).length&&true)&&true)
 (.call ⟨45,[sI .u32 (aeG.wrap ty)],[],.p (.ps (J (aeG.wrap ty)) 1 (Q (aeG.wrap ty))),[]⟩
 (.must (((k+JN mo+JN nm+1+J (aeG.wrap ty))*1).ble aR&&(k+JN mo+JN nm+1+J (aeG.wrap ty)).ble aR&&(((k+JN mo+JN nm+1)*1).beq (aeM av (aeM av (aeM av (aeM av (aeM av (aeM av (aeM av (aeM av (aeM av (aeM av (aeM AV.p X)++aeM AV.p (QN mo))))++aeM AV.p (QN nm))))++[sI .u8 0])))).length&&allBy (aeM AV.p (Q (aeG.wrap ty))))&&true&&true&&true)
 (.must true
 (.out (.ret (.aK []) [.ac [.mp 1 0],.ac (.ms 3 0 (k+JN mo+JN nm+1+J (aeG.wrap ty)) 1 none::mV M),.dead,.ob (dS.gb 5) (aeM av (aeM av (aeM av (aeM av (aeM av (aeM av (aeM av (aeM av (aeM av (aeM av (aeM av (aeM av (aeM av (aeM AV.p X)++aeM AV.p (QN mo))))++aeM AV.p (QN nm))))++[sI .u8 0])))++aeM AV.p (Q (aeG.wrap ty))))))])))))))))))))
theorem WK (M:Mo) (k:Nat) (i:Nat) (X:List PV) (J:aah) (Q:aal) (mo:ByteArray) (nm:ByteArray) (ty:Int) (EN:ByteArray→Int) (JN:aaI) (QN:abs) (e:Int) (n:Nat) (Z:List PV):aI ae bO (ahZ M k i X J Q mo nm ty EN JN QN e n Z) 1000000 84 ([sI re (↑i:Int),AV.mp 0 0]) ([bq.ac [AV.mp 1 0],bq.ac (AV.ms 2 0 k 1 ae1::mV M),bq.ob (dS.gb 5) (aeM AV.p X)]) al2=SH M k i X J Q mo nm ty EN JN QN e n Z:=by kernel_rfl
def ah0 (M:Mo) (k:Nat) (j:Nat) (X:List PV) (J:aah) (Q:aal) (fs:List Int) (t:Int):bA:=dY aE (emD M k j X J Q fs t) [(93,0)] [(93,0,1)] [(93,7,0),(93,7,1),(20,0,0)] (emS M k j X J Q fs t)
def al3:Sc:= .fin
def Jn (M:Mo) (k:Nat) (j:Nat) (X:List PV) (J:aah) (Q:aal) (fs:List Int) (t:Int):aA:=
 (.test (decide ((↑j:Int)<(↑fs.length:Int)))
 (.must (aP (↑j:Int) fs.length&&true&&true)
 (.must (isInt aeG (aq (bN aeG fs) (aB j*1))&&true)
 (.need (sI .u32 (au (aq (bN aeG fs) (aB j*1)))=sI aeG t)
 (.call ⟨45,[sI .u32 t],[],.p (.ps (J t) 1 (Q t)),[]⟩
 (.must (((k+J t)*1).ble aR&&(k+J t).ble aR&&((k*1).beq (aeM av (aeM AV.p X)).length&&allBy (aeM AV.p (Q t)))&&true&&true&&true)
 (.must true
 (.need (sI .i64 (re.wrap ((↑j:Int)+1))=sI re (↑(j+1):Int))
 (.at (ah ae bO 93 0 [.mp 0 0,.p (.ps fs.length 1 (bN aeG fs)),sI .i64 (↑fs.length:Int),sI .i64 (↑(j+1):Int)] ([.ac [.mp 1 0],.ac (.ms 3 0 (k+J t) 1 none::mV M),.dead,.ob (dS.gb 5) (aeM av (aeM av (aeM av (aeM av (aeM AV.p X)++aeM AV.p (Q t)))))]) 3 46)))))))))
 (.out (.ret (.aK []) [.ac [.mp 1 0],.ac (.ms 3 0 k 1 none::mV M),.dead,.ob (dS.gb 5) (aeM av (aeM AV.p X))])))
theorem Lc (M:Mo) (k:Nat) (j:Nat) (X:List PV) (J:aah) (Q:aal) (fs:List Int) (t:Int):grow ae bO (ah0 M k j X J Q fs t) 1000000 true (ah ae bO 93 0 ([AV.mp 0 0,AV.p (PV.ps fs.length 1 (bN aeG fs)),sI re (↑fs.length:Int),sI re (↑j:Int)]) ([bq.ac [AV.mp 1 0],bq.ac (AV.ms 3 0 k 1 ae1::mV M),bq.dead,bq.ob (dS.gb 5) (aeM AV.p X)]) 3 46) al3 atEnd=Jn M k j X J Q fs t:=by kernel_rfl
theorem jJ (v:PV):av (.p v) = .p v:=rfl
theorem nD (n:Int) (l:List AV):allBy (sI .u8 n::l)=allBy l:=rfl
theorem bE (l:List PV):aeM av (aeM AV.p l)=aeM AV.p l:=by rw[akD];rfl
theorem az.vS {f:FuncId} {args:List AV} {m m':Mem} {v:AV} (h:az ae env f args m v m'):az ae bO f args m v m':=h.env fun _ _ q=>q
theorem iE {a:Int} (h:0≤a∧a<4294967296):az ae env 45 [sI .u32 a] [] (.p (.ps (eU a).length 1 (bt (eU a)))) []:=hG h
abbrev gB (X:List Nat):bq:= .ob (.gb 5) ((bt X).map .p)
abbrev wB (M:Mo) (b k:Nat):bq:= .ac (.ms b 0 k 1 none::mV M)
def Item (M:Mo) (f:FuncId) (i:Nat) (Y:List Nat):Prop:= ∀X:List Nat,X.length+Y.length≤10000000000000 →
 az ae bO f [sI .i64 i,.mp 0 0] [.ac [.mp 1 0],wB M 2 X.length,gB X] (.aK []) [.ac [.mp 1 0],wB M 3 (X++Y).length,.dead,gB (X++Y)]
theorem sL {M:Mo} {k k':Nat} {l l':List AV} (hk:k=k') (hl:l=l'):Out.ret (.aK []) [.ac [.mp 1 0],.ac (.ms 3 0 k 1 none::mV M),.dead,.ob (.gb 5) l] = .ret (.aK []) [.ac [.mp 1 0],.ac (.ms 3 0 k' 1 none::mV M),.dead,.ob (.gb 5) l']:=by subst hk;subst hl;rfl
theorem bU (c:Nat) (l:List Nat):bt (c::l) = .sc (.int .u8 (c:Int))::bt l:=rfl
theorem cA:bt []=[]:=rfl
theorem Ld {bs:List Int} (h : ∀b∈bs,0≤b):bN .u8 bs=bt (bs.map Int.toNat):=by
 unfold bN bt
 rw[akD]
 refine List.map_congr_left fun b hb=> ?_
 have:=h b hb
 simp only[Function.comp_apply]
 rw[Int.toNat_of_nonneg this]
theorem ac1 {lo:Int} {l:List Ins} (hc:cz l≤1000000):(AA lo l).length≤20000011:=by
 have h1:=oL hc
 have h2:=kK 4 lo.toNat
 unfold AA
 split
 · split<;>simp only[dC,ml,aeK]<;>omega
 · simp
theorem Jo (s:ByteArray) (hs:s.data.toList.length≤1000000):(eM s).length≤1000005:=by
 have:=eg (s.data.toList.length:Int)
 unfold eM
 split
 · rw[dC,ME,my];omega
 · simp
set_option maxHeartbeats 1000000 in
theorem WL (M:Mo) (i:Nat) (x:Ty) (hx:M.tys[i]? = some x):Item M 82 i (sF x):=by
 intro X hX
 have bw:aR=70368744177664:=rfl
 have hi:i<M.tys.length:=(dT.1 hx).1
 have c:=aW (z:=2) (enc:=bK) (fun _=>rfl) hx
 have ew:(M.tys.flatMap bK).getD (i*2+0) .bz = .sc (.int .i64 x.p):=c 0 (by decide)
 have eD:(M.tys.flatMap bK).getD (i*2) .bz = .sc (.int .i64 x.p):=c 0 (by decide)
 have gq:(M.tys.flatMap bK).getD (i*2+1) .bz = .sc (.int .i64 x.r):=c 1 (by decide)
 have hin:aP (i:Int) M.tys.length=true:=by simp only[aP,di,decide_eq_true_eq];omega
 refine aa aH (WA M X.length i (bt X) jU qU x.p x.r (vv x) (sF x).length (bt (sF x))) ?_
 simp only[Sy,aV,aA.ok,isStr,isInt,aO,isBool,bg,au,bf,an,aD,ak,afm,ajQ,ajX,beq_self_eq_true,akN,bE,aeJ,jJ,s0,ta,allBy_append,dy,gx,nD,hin,gH,jA,bW,ew,eD,gq]
 simp only[di,ajp,fi,my,aT,dC,ml,aeK,ajS,bw]
 repeat' first | exact akX | with_reducible refine ags ?_ ?_ | with_reducible exact az.vS (Wy x) | omega | exact sL (by first | rfl | (simp only[eV,dC,ml,aeK,my];omega)) (by first | (simp only[eV,aS,bU,cA,aeJ,s0,ta,tl,Ps,Hm];done) | (simp only[eV,aS,bU,cA,aeJ,s0,ta,tl,Ps,Hm];rfl))
set_option maxHeartbeats 1000000 in
theorem WM (M:Mo) (i:Nat) (x:Fu) (hx:M.fns[i]? = some x):Item M 86 i (BW x):=by
 intro X hX
 have bw:aR=70368744177664:=rfl
 have hi:i<M.fns.length:=(dT.1 hx).1
 have c:=aW (z:=3) (enc:=aG) (fun _=>rfl) hx
 have ew:(M.fns.flatMap aG).getD (i*3+0) .bz = .sc (.int .i64 x.ty):=c 0 (by decide)
 have eD:(M.fns.flatMap aG).getD (i*3) .bz = .sc (.int .i64 x.ty):=c 0 (by decide)
 have gq:(M.fns.flatMap aG).getD (i*3+1) .bz = .sc (.int .i64 x.lo):=c 1 (by decide)
 have nk:(M.fns.flatMap aG).getD (i*3+1+1) .bz = .ps (x.l).length 8 (aj (x.l)):=c 2 (by decide)
 have nq:(M.fns.flatMap aG).getD (i*3+2) .bz = .ps (x.l).length 8 (aj (x.l)):=c 2 (by decide)
 have hin:aP (i:Int) M.fns.length=true:=by simp only[aP,di,decide_eq_true_eq];omega
 refine aa aH (WB M X.length i (bt X) jU qU 0 0 []) ?_
 simp only[Sz,aV,aA.ok,isStr,isInt,aO,isBool,bg,au,bf,an,aD,ak,afm,ajQ,ajX,beq_self_eq_true,akN,bE,aeJ,jJ,s0,ta,allBy_append,dy,gx,nD,hin,gH,jA,bW,ew,eD,gq,nk,nq]
 simp only[di,ajp,fi,my,aT,dC,ml,aeK,ajS,bw]
 simp only[BW,eV,dC,ml,aeK,my] at hX
 repeat' first | exact akX | with_reducible refine ags ?_ ?_ | with_reducible exact az.vS (iE (eN x.ty)) | omega | exact sL (by first | rfl | (simp only[BW,eV,dC,ml,aeK,my];omega)) (by first | (simp only[BW,eV,aS,bU,cA,aeJ,s0,ta,tl,Ps,Hm];done) | (simp only[BW,eV,aS,bU,cA,aeJ,s0,ta,tl,Ps,Hm];rfl))
set_option maxHeartbeats 1000000 in
theorem WN (M:Mo) (i:Nat) (x:Li) (hx:M.b8[i]? = some x) (hw:uj x):Item M 87 i (BX x):=by
 intro X hX
 have bw:aR=70368744177664:=rfl
 have hi:i<M.b8.length:=(dT.1 hx).1
 have c:=aW (z:=3) (enc:=aF) (fun _=>rfl) hx
 have ew:(M.b8.flatMap aF).getD (i*3+0) .bz = .sc (.int .u32 x.mn):=c 0 (by decide)
 have eD:(M.b8.flatMap aF).getD (i*3) .bz = .sc (.int .u32 x.mn):=c 0 (by decide)
 have gq:(M.b8.flatMap aF).getD (i*3+1) .bz = .sc (.int .u32 x.mx):=c 1 (by decide)
 have nk:(M.b8.flatMap aF).getD (i*3+1+1) .bz = .sc (.bool x.cap):=c 2 (by decide)
 have nq:(M.b8.flatMap aF).getD (i*3+2) .bz = .sc (.bool x.cap):=c 2 (by decide)
 have hin:aP (i:Int) M.b8.length=true:=by simp only[aP,di,decide_eq_true_eq];omega
 refine aa aH (WC M X.length i (bt X) jU qU (yC 1048576 x) (tr 1048576 x).length (bt (tr 1048576 x))) ?_
 simp only[SA,aV,aA.ok,isStr,isInt,aO,isBool,bg,au,bf,an,aD,ak,afm,ajQ,ajX,beq_self_eq_true,akN,bE,aeJ,jJ,s0,ta,allBy_append,dy,gx,nD,hin,gH,jA,bW,ew,eD,gq,nk,nq]
 simp only[di,ajp,fi,my,aT,dC,ml,aeK,ajS,bw]
 simp only[BX,eV,dC,ml,aeK,my] at hX
 repeat' first | exact akX | with_reducible refine ags ?_ ?_ | with_reducible exact az.vS (Lb 1048576 x hw) | omega | exact sL (by first | rfl | (simp only[BX,eV,dC,ml,aeK,my];omega)) (by first | (simp only[BX,eV,aS,bU,cA,aeJ,s0,ta,tl,Ps,Hm];done) | (simp only[BX,eV,aS,bU,cA,aeJ,s0,ta,tl,Ps,Hm];rfl))
set_option maxHeartbeats 1000000 in
theorem WO (M:Mo) (i:Nat) (x:Li) (hx:M.b9[i]? = some x) (hw:uj x):Item M 89 i (BY x):=by
 intro X hX
 have bw:aR=70368744177664:=rfl
 have hi:i<M.b9.length:=(dT.1 hx).1
 have c:=aW (z:=3) (enc:=aF) (fun _=>rfl) hx
 have ew:(M.b9.flatMap aF).getD (i*3+0) .bz = .sc (.int .u32 x.mn):=c 0 (by decide)
 have eD:(M.b9.flatMap aF).getD (i*3) .bz = .sc (.int .u32 x.mn):=c 0 (by decide)
 have gq:(M.b9.flatMap aF).getD (i*3+1) .bz = .sc (.int .u32 x.mx):=c 1 (by decide)
 have nk:(M.b9.flatMap aF).getD (i*3+1+1) .bz = .sc (.bool x.cap):=c 2 (by decide)
 have nq:(M.b9.flatMap aF).getD (i*3+2) .bz = .sc (.bool x.cap):=c 2 (by decide)
 have hin:aP (i:Int) M.b9.length=true:=by simp only[aP,di,decide_eq_true_eq];omega
 refine aa aH (WD M X.length i (bt X) jU qU (yC 65536 x) (tr 65536 x).length (bt (tr 65536 x))) ?_
 simp only[SB,aV,aA.ok,isStr,isInt,aO,isBool,bg,au,bf,an,aD,ak,afm,ajQ,ajX,beq_self_eq_true,akN,bE,aeJ,jJ,s0,ta,allBy_append,dy,gx,nD,hin,gH,jA,bW,ew,eD,gq,nk,nq]
 simp only[di,ajp,fi,my,aT,dC,ml,aeK,ajS,bw]
 simp only[BY,eV,dC,ml,aeK,my] at hX
 repeat' first | exact akX | with_reducible refine ags ?_ ?_ | with_reducible exact az.vS (Lb 65536 x hw) | omega | exact sL (by first | rfl | (simp only[BY,eV,dC,ml,aeK,my];omega)) (by first | (simp only[BY,eV,aS,bU,cA,aeJ,s0,ta,tl,Ps,Hm];done) | (simp only[BY,eV,aS,bU,cA,aeJ,s0,ta,tl,Ps,Hm];rfl))
set_option maxHeartbeats 1000000 in
theorem WQ (M:Mo) (i:Nat) (x:Gl) (hx:M.gls[i]? = some x) (hw:qn x.l) (hc:cz x.l≤1000000):Item M 90 i (BZ x):=by
 intro X hX
 have bw:aR=70368744177664:=rfl
 have hi:i<M.gls.length:=(dT.1 hx).1
 have c:=aW (z:=2) (enc:=bn) (fun _=>rfl) hx
 have ew:(M.gls.flatMap bn).getD (i*2+0) .bz = .sc (.bool x.mu):=c 0 (by decide)
 have eD:(M.gls.flatMap bn).getD (i*2) .bz = .sc (.bool x.mu):=c 0 (by decide)
 have gq:(M.gls.flatMap bn).getD (i*2+1) .bz = .ps (x.l).length 8 (aj (x.l)):=c 1 (by decide)
 have hin:aP (i:Int) M.gls.length=true:=by simp only[aP,di,decide_eq_true_eq];omega
 refine aa aH (WE M X.length i (bt X) jU qU x.mu (bT dQ x.l) (kM x.l).length (bt (kM x.l))) ?_
 simp only[SC,aV,aA.ok,isStr,isInt,aO,isBool,bg,au,bf,an,aD,ak,afm,ajQ,ajX,beq_self_eq_true,akN,bE,aeJ,jJ,s0,ta,allBy_append,dy,gx,nD,hin,gH,jA,bW,ew,eD,gq]
 simp only[di,ajp,fi,my,aT,dC,ml,aeK,ajS,bw]
 simp only[BZ,eV,dC,ml,aeK,my] at hX
 refine⟨trivial,trivial,trivial,fun hm=> ?_,fun hm=> ?_⟩
 repeat' first | exact akX | with_reducible refine ags ?_ ?_ | with_reducible exact az.vS (vP hw hc) | omega | exact sL (by first | rfl | (simp only[BZ,hm,if_true,o0,if_false,eV,dC,ml,aeK,my];omega)) (by first | (simp only[BZ,hm,if_true,o0,if_false,eV,aS,bU,cA,aeJ,s0,ta,tl,Ps,Hm];done) | (simp only[BZ,hm,if_true,o0,if_false,eV,aS,bU,cA,aeJ,s0,ta,tl,Ps,Hm];rfl))
set_option maxHeartbeats 1000000 in
theorem WR (M:Mo) (i:Nat) (x:Fu) (hx:M.fns[i]? = some x) (hw:qn x.l) (hc:cz x.l≤1000000):Item M 94 i (B2 x):=by
 intro X hX
 have bw:aR=70368744177664:=rfl
 have hi:i<M.fns.length:=(dT.1 hx).1
 have c:=aW (z:=3) (enc:=aG) (fun _=>rfl) hx
 have ew:(M.fns.flatMap aG).getD (i*3+0) .bz = .sc (.int .i64 x.ty):=c 0 (by decide)
 have eD:(M.fns.flatMap aG).getD (i*3) .bz = .sc (.int .i64 x.ty):=c 0 (by decide)
 have gq:(M.fns.flatMap aG).getD (i*3+1) .bz = .sc (.int .i64 x.lo):=c 1 (by decide)
 have nk:(M.fns.flatMap aG).getD (i*3+1+1) .bz = .ps (x.l).length 8 (aj (x.l)):=c 2 (by decide)
 have nq:(M.fns.flatMap aG).getD (i*3+2) .bz = .ps (x.l).length 8 (aj (x.l)):=c 2 (by decide)
 have hin:aP (i:Int) M.fns.length=true:=by simp only[aP,di,decide_eq_true_eq];omega
 refine aa aH (WG M X.length i (bt X) jU qU x.lo x.l (Qa x.lo x.l) (AA x.lo x.l).length (bt (AA x.lo x.l))) ?_
 simp only[SD,aV,aA.ok,isStr,isInt,aO,isBool,bg,au,bf,an,aD,ak,afm,ajQ,ajX,beq_self_eq_true,akN,bE,aeJ,jJ,s0,ta,allBy_append,dy,gx,nD,hin,gH,jA,bW,ew,eD,gq,nk,nq]
 simp only[di,ajp,fi,my,aT,dC,ml,aeK,ajS,bw]
 simp only[B2,eV,dC,ml,aeK,my] at hX
 repeat' first | exact akX | with_reducible refine ags ?_ ?_ | with_reducible exact az.vS (UJ x.lo hw hc) | with_reducible exact az.vS (iE (eN _)) | omega | exact sL (by first | rfl | (simp only[B2,eV,dC,ml,aeK,my];omega)) (by first | (simp only[B2,eV,aS,bU,cA,aeJ,s0,ta,tl,Ps,Hm];done) | (simp only[B2,eV,aS,bU,cA,aeJ,s0,ta,tl,Ps,Hm];rfl))
set_option maxHeartbeats 1000000 in
theorem WS (M:Mo) (i:Nat) (x:Ex) (hx:M.exs[i]? = some x) (hs:x.nm.data.toList.length≤1000000) (hu:0≤x.ix∧x.ix<4294967296):Item M 92 i (B0 x):=by
 intro X hX
 have bw:aR=70368744177664:=rfl
 have hi:i<M.exs.length:=(dT.1 hx).1
 have c:=aW (z:=3) (enc:=bu) (fun _=>rfl) hx
 have ew:(M.exs.flatMap bu).getD (i*3+0) .bz = .sc (.string x.nm):=c 0 (by decide)
 have eD:(M.exs.flatMap bu).getD (i*3) .bz = .sc (.string x.nm):=c 0 (by decide)
 have gq:(M.exs.flatMap bu).getD (i*3+1) .bz = .sc (.int .i64 x.kind):=c 1 (by decide)
 have nk:(M.exs.flatMap bu).getD (i*3+1+1) .bz = .sc (.int .u32 x.ix):=c 2 (by decide)
 have nq:(M.exs.flatMap bu).getD (i*3+2) .bz = .sc (.int .u32 x.ix):=c 2 (by decide)
 have hin:aP (i:Int) M.exs.length=true:=by simp only[aP,di,decide_eq_true_eq];omega
 refine aa aH (WH M X.length i (bt X) jU qU x.nm x.kind x.ix (sG x.nm) (eM x.nm).length (bt (eM x.nm))) ?_
 simp only[SE,aV,aA.ok,isStr,isInt,aO,isBool,bg,au,bf,an,aD,ak,afm,ajQ,ajX,beq_self_eq_true,akN,bE,aeJ,jJ,s0,ta,allBy_append,dy,gx,nD,hin,gH,jA,bW,ew,eD,gq,nk,nq]
 simp only[di,ajp,fi,my,aT,dC,ml,aeK,ajS,bw]
 simp only[B0,eV,dC,ml,aeK,my] at hX
 repeat' first | exact akX | with_reducible refine ags ?_ ?_ | with_reducible exact az.vS (D2 x.nm hs) | with_reducible exact az.vS (iE hu) | omega | exact sL (by first | rfl | (simp only[B0,eV,dC,ml,aeK,my];omega)) (by first | (simp only[B0,eV,aS,bU,cA,aeJ,s0,ta,tl,Ps,Hm];done) | (simp only[B0,eV,aS,bU,cA,aeJ,s0,ta,tl,Ps,Hm];rfl))
set_option maxHeartbeats 1000000 in
theorem WT (M:Mo) (i:Nat) (x:Da) (hx:M.bp[i]? = some x) (hw:qn x.l) (hc:cz x.l≤1000000) (hb:x.bs.length≤1000000) (h0 : ∀b∈x.bs,0≤b):Item M 96 i (B3 x):=by
 intro X hX
 have bw:aR=70368744177664:=rfl
 have hi:i<M.bp.length:=(dT.1 hx).1
 have c:=aW (z:=2) (enc:=aZ) (fun _=>rfl) hx
 have ew:(M.bp.flatMap aZ).getD (i*2+0) .bz = .ps (x.l).length 8 (aj (x.l)):=c 0 (by decide)
 have eD:(M.bp.flatMap aZ).getD (i*2) .bz = .ps (x.l).length 8 (aj (x.l)):=c 0 (by decide)
 have gq:(M.bp.flatMap aZ).getD (i*2+1) .bz = .ps (x.bs).length 1 (bN .u8 (x.bs)):=c 1 (by decide)
 have hbt:=Ld h0
 have hin:aP (i:Int) M.bp.length=true:=by simp only[aP,di,decide_eq_true_eq];omega
 refine aa aH (WJ M X.length i (bt X) jU qU x.l x.bs (bT dQ x.l) (kM x.l).length (bt (kM x.l))) ?_
 simp only[SG,aV,aA.ok,isStr,isInt,aO,isBool,bg,au,bf,an,aD,ak,afm,ajQ,ajX,beq_self_eq_true,akN,bE,aeJ,jJ,s0,ta,allBy_append,dy,gx,nD,hin,gH,jA,bW,ew,eD,gq,hbt]
 simp only[di,ajp,fi,my,aT,dC,ml,aeK,ajS,bw]
 simp only[B3,eV,dC,ml,aeK,my] at hX
 repeat' first | exact akX | with_reducible refine ags ?_ ?_ | with_reducible exact az.vS (vP hw hc) | with_reducible exact az.vS (iE (eN _)) | omega | exact sL (by first | rfl | (simp only[B3,eV,dC,ml,aeK,my];omega)) (by first | (simp only[B3,eV,aS,bU,cA,aeJ,s0,ta,tl,Ps,Hm];done) | (simp only[B3,eV,aS,bU,cA,aeJ,s0,ta,tl,Ps,Hm];rfl))
set_option maxHeartbeats 1000000 in
theorem WU (M:Mo) (i:Nat) (x:Im) (hx:M.aX[i]? = some x) (hs:x.mo.data.toList.length≤1000000) (ht:x.nm.data.toList.length≤1000000):Item M 84 i (BV x):=by
 intro X hX
 have bw:aR=70368744177664:=rfl
 have hi:i<M.aX.length:=(dT.1 hx).1
 have c:=aW (z:=3) (enc:=bh) (fun _=>rfl) hx
 have ew:(M.aX.flatMap bh).getD (i*3+0) .bz = .sc (.string x.mo):=c 0 (by decide)
 have eD:(M.aX.flatMap bh).getD (i*3) .bz = .sc (.string x.mo):=c 0 (by decide)
 have gq:(M.aX.flatMap bh).getD (i*3+1) .bz = .sc (.string x.nm):=c 1 (by decide)
 have nk:(M.aX.flatMap bh).getD (i*3+1+1) .bz = .sc (.int .i64 x.ty):=c 2 (by decide)
 have nq:(M.aX.flatMap bh).getD (i*3+2) .bz = .sc (.int .i64 x.ty):=c 2 (by decide)
 have hin:aP (i:Int) M.aX.length=true:=by simp only[aP,di,decide_eq_true_eq];omega
 refine aa aH (WK M X.length i (bt X) jU qU x.mo x.nm x.ty sG (fun s=>(eM s).length) (fun s=>bt (eM s)) 0 0 []) ?_
 simp only[SH,aV,aA.ok,isStr,isInt,aO,isBool,bg,au,bf,an,aD,ak,afm,ajQ,ajX,beq_self_eq_true,akN,bE,aeJ,jJ,s0,ta,allBy_append,dy,gx,nD,hin,gH,jA,bW,ew,eD,gq,nk,nq]
 simp only[di,ajp,fi,my,aT,dC,ml,aeK,ajS,bw]
 simp only[BV,eV,dC,ml,aeK,my] at hX
 repeat' first | exact akX | with_reducible refine ags ?_ ?_ | with_reducible exact az.vS (D2 x.mo hs) | with_reducible exact az.vS (D2 x.nm ht) | with_reducible exact az.vS (iE (eN _)) | omega | exact sL (by first | rfl | (simp only[BV,eV,dC,ml,aeK,my];omega)) (by first | (simp only[BV,eV,aS,bU,cA,aeJ,s0,ta,tl,Ps,Hm];done) | (simp only[BV,eV,aS,bU,cA,aeJ,s0,ta,tl,Ps,Hm];rfl))
end Go.Proofs.YtncncijedmfpjaaGreatDoor.N
end
