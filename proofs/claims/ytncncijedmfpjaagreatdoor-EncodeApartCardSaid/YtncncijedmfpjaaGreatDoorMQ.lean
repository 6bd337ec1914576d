import Derived.Test.YtncncijedmfpjaaGreatDoorMP
open Nat renaming beq→bj,mul_one→ac8,ble_eq→acO,beq_eq→fw
open Go.IntKind renaming u32→acu,i64→sa,u8→acQ
open List renaming map→acC,flatMap→ac6,length_append→dT,length_cons→od,length_nil→acA,length_map→ov,map_append→acx,map_cons→uv,map_nil→vb,append_assoc→vt,cons_append→aaq,nil_append→Ps,getElem?_eq_some_iff→ee,map_map→adq
open Go.Proofs.Tryz renaming prog→ae
open Option renaming none→acH
open Go.Value renaming string→adf
open Bool renaming and_eq_true→dp,and_true→ac7,true_and→ade,and_self→adr,false_eq_true→pn
open Int renaming toNat_natCast→acN
open True renaming intro→ads
open And renaming intro→adt
noncomputable section
section
set_option linter.unusedSimpArgs false
set_option linter.unusedVariables false
namespace Go.Proofs.YtncncijedmfpjaaGreatDoor.N
open Go Go.Am
def tyC (M:Mo) (k i:Nat) (X:List PV) (J:aab) (Q:aac) (p r:Int) (e:Int) (n:Nat) (Z:List PV) (f:FuncId) (args:List AV) (m:Mem):Option (AV×Mem):=cond (bj f 83) (some (.aK [.p (.ps n 1 Z),sI .i64 e],m)) none
def tyD (M:Mo) (k i:Nat) (X:List PV) (J:aab) (Q:aac) (p r:Int) (e:Int) (n:Nat) (Z:List PV) (f:FuncId) (args:List AV) (m:Mem):Option (AV×Mem):=cond (bj f 45) (match args with | [.p (.sc (.int _ n))]=>some (.p (.ps (J n) 1 (Q n)),m) | _=>none) none
def tyS (M:Mo) (k i:Nat) (X:List PV) (J:aab) (Q:aac) (p r:Int) (e:Int) (n:Nat) (Z:List PV):FuncId→Nat→Nat→Option (AV→AV):=cu [(82,1,7,.agg [sI .i64 p,sI .i64 r])]
def fuC (M:Mo) (k i:Nat) (X:List PV) (J:aab) (Q:aac) (e:Int) (n:Nat) (Z:List PV) (f:FuncId) (args:List AV) (m:Mem):Option (AV×Mem):=cond (bj f 0) (some (.aK [.p (.ps n 1 Z),sI .i64 e],m)) none
def fuD (M:Mo) (k i:Nat) (X:List PV) (J:aab) (Q:aac) (e:Int) (n:Nat) (Z:List PV) (f:FuncId) (args:List AV) (m:Mem):Option (AV×Mem):=cond (bj f 45) (match args with | [.p (.sc (.int _ n))]=>some (.p (.ps (J n) 1 (Q n)),m) | _=>none) none
def taC (M:Mo) (k i:Nat) (X:List PV) (J:aab) (Q:aac) (e:Int) (n:Nat) (Z:List PV) (f:FuncId) (args:List AV) (m:Mem):Option (AV×Mem):=cond (bj f 118) (some (.aK [.p (.ps n 1 Z),sI .i64 e],m)) none
def taD (M:Mo) (k i:Nat) (X:List PV) (J:aab) (Q:aac) (e:Int) (n:Nat) (Z:List PV) (f:FuncId) (args:List AV) (m:Mem):Option (AV×Mem):=cond (bj f 45) (match args with | [.p (.sc (.int _ n))]=>some (.p (.ps (J n) 1 (Q n)),m) | _=>none) none
def meC (M:Mo) (k i:Nat) (X:List PV) (J:aab) (Q:aac) (e:Int) (n:Nat) (Z:List PV) (f:FuncId) (args:List AV) (m:Mem):Option (AV×Mem):=cond (bj f 118) (some (.aK [.p (.ps n 1 Z),sI .i64 e],m)) none
def meD (M:Mo) (k i:Nat) (X:List PV) (J:aab) (Q:aac) (e:Int) (n:Nat) (Z:List PV) (f:FuncId) (args:List AV) (m:Mem):Option (AV×Mem):=cond (bj f 45) (match args with | [.p (.sc (.int _ n))]=>some (.p (.ps (J n) 1 (Q n)),m) | _=>none) none
def glC (M:Mo) (k i:Nat) (X:List PV) (J:aab) (Q:aac) (mu:Bool) (e:Int) (n:Nat) (Z:List PV) (f:FuncId) (args:List AV) (m:Mem):Option (AV×Mem):=cond (bj f 119) (some (.aK [.p (.ps n 1 Z),sI .i64 e],m)) none
def glD (M:Mo) (k i:Nat) (X:List PV) (J:aab) (Q:aac) (mu:Bool) (e:Int) (n:Nat) (Z:List PV) (f:FuncId) (args:List AV) (m:Mem):Option (AV×Mem):=cond (bj f 45) (match args with | [.p (.sc (.int _ n))]=>some (.p (.ps (J n) 1 (Q n)),m) | _=>none) none
def glS (M:Mo) (k i:Nat) (X:List PV) (J:aab) (Q:aac) (mu:Bool) (e:Int) (n:Nat) (Z:List PV):FuncId→Nat→Nat→Option (AV→AV):=cu [(90,2,8,sB mu)]
def czC (M:Mo) (k i:Nat) (X:List PV) (J:aab) (Q:aac) (lo:Int) (l:List Ins) (e:Int) (n:Nat) (Z:List PV) (f:FuncId) (args:List AV) (m:Mem):Option (AV×Mem):=cond (bj f 95) (some (.aK [.p (.ps n 1 Z),sI .i64 e],m)) none
def czD (M:Mo) (k i:Nat) (X:List PV) (J:aab) (Q:aac) (lo:Int) (l:List Ins) (e:Int) (n:Nat) (Z:List PV) (f:FuncId) (args:List AV) (m:Mem):Option (AV×Mem):=cond (bj f 45) (match args with | [.p (.sc (.int _ n))]=>some (.p (.ps (J n) 1 (Q n)),m) | _=>none) none
def czS (M:Mo) (k i:Nat) (X:List PV) (J:aab) (Q:aac) (lo:Int) (l:List Ins) (e:Int) (n:Nat) (Z:List PV):FuncId→Nat→Nat→Option (AV→AV):=cu [(94,1,8,.agg [sI .i64 lo,aL l])]
def exC (M:Mo) (k i:Nat) (X:List PV) (J:aab) (Q:aac) (nm:ByteArray) (kd ix:Int) (e:Int) (n:Nat) (Z:List PV) (f:FuncId) (args:List AV) (m:Mem):Option (AV×Mem):=cond (bj f 117) (some (.aK [.p (.ps n 1 Z),sI .i64 e],m)) none
def exD (M:Mo) (k i:Nat) (X:List PV) (J:aab) (Q:aac) (nm:ByteArray) (kd ix:Int) (e:Int) (n:Nat) (Z:List PV) (f:FuncId) (args:List AV) (m:Mem):Option (AV×Mem):=cond (bj f 45) (match args with | [.p (.sc (.int _ n))]=>some (.p (.ps (J n) 1 (Q n)),m) | _=>none) none
def exS (M:Mo) (k i:Nat) (X:List PV) (J:aab) (Q:aac) (nm:ByteArray) (kd ix:Int) (e:Int) (n:Nat) (Z:List PV):FuncId→Nat→Nat→Option (AV→AV):=cu [(92,1,7,.agg [.p (.sc (.string nm)),sI .i64 kd,sI .u32 ix])]
def elC (M:Mo) (k i:Nat) (X:List PV) (J:aab) (Q:aac) (l:List Ins) (fs:List Int) (e:Int) (n:Nat) (Z:List PV) (f:FuncId) (args:List AV) (m:Mem):Option (AV×Mem):=cond (bj f 119) (some (.aK [.p (.ps n 1 Z),sI .i64 e],m)) none
def elD (M:Mo) (k i:Nat) (X:List PV) (J:aab) (Q:aac) (l:List Ins) (fs:List Int) (e:Int) (n:Nat) (Z:List PV) (f:FuncId) (args:List AV) (m:Mem):Option (AV×Mem):=cond (bj f 45) (match args with | [.p (.sc (.int _ n))]=>some (.p (.ps (J n) 1 (Q n)),m) | _=>none) none
def elS (M:Mo) (k i:Nat) (X:List PV) (J:aab) (Q:aac) (l:List Ins) (fs:List Int) (e:Int) (n:Nat) (Z:List PV):FuncId→Nat→Nat→Option (AV→AV):=cu [(93,1,7,.agg [aL l,.p (.ps fs.length 1 (bU .u32 fs))])]
def daC (M:Mo) (k i:Nat) (X:List PV) (J:aab) (Q:aac) (l:List Ins) (bs:List Int) (e:Int) (n:Nat) (Z:List PV) (f:FuncId) (args:List AV) (m:Mem):Option (AV×Mem):=cond (bj f 119) (some (.aK [.p (.ps n 1 Z),sI .i64 e],m)) none
def daD (M:Mo) (k i:Nat) (X:List PV) (J:aab) (Q:aac) (l:List Ins) (bs:List Int) (e:Int) (n:Nat) (Z:List PV) (f:FuncId) (args:List AV) (m:Mem):Option (AV×Mem):=cond (bj f 45) (match args with | [.p (.sc (.int _ n))]=>some (.p (.ps (J n) 1 (Q n)),m) | _=>none) none
def daS (M:Mo) (k i:Nat) (X:List PV) (J:aab) (Q:aac) (l:List Ins) (bs:List Int) (e:Int) (n:Nat) (Z:List PV):FuncId→Nat→Nat→Option (AV→AV):=cu [(96,1,7,.agg [aL l,.p (.ps bs.length 1 (bU .u8 bs))])]
def imC (M:Mo) (k i:Nat) (X:List PV) (J:aab) (Q:aac) (mo nm:ByteArray) (ty:Int) (EN:ByteArray→Int) (JN:aad) (QN:aae) (e:Int) (n:Nat) (Z:List PV) (f:FuncId) (args:List AV) (m:Mem):Option (AV×Mem):=cond (bj f 117) ((match args with | [.p (.sc (.string s))]=>some (.aK [.p (.ps (JN s) 1 (QN s)),sI .i64 (EN s)],m) | _=>none)) none
def imD (M:Mo) (k i:Nat) (X:List PV) (J:aab) (Q:aac) (mo nm:ByteArray) (ty:Int) (EN:ByteArray→Int) (JN:aad) (QN:aae) (e:Int) (n:Nat) (Z:List PV) (f:FuncId) (args:List AV) (m:Mem):Option (AV×Mem):=cond (bj f 45) (match args with | [.p (.sc (.int _ n))]=>some (.p (.ps (J n) 1 (Q n)),m) | _=>none) none
def imS (M:Mo) (k i:Nat) (X:List PV) (J:aab) (Q:aac) (mo nm:ByteArray) (ty:Int) (EN:ByteArray→Int) (JN:aad) (QN:aae) (e:Int) (n:Nat) (Z:List PV):FuncId→Nat→Nat→Option (AV→AV):=cu [(84,1,7,.agg [.p (.sc (.string mo)),.p (.sc (.string nm)),sI .i64 ty])]
def emD (M:Mo) (k j:Nat) (X:List PV) (J:aab) (Q:aac) (fs:List Int) (t:Int) (f:FuncId) (args:List AV) (m:Mem):Option (AV×Mem):=cond (bj f 45) (match args with | [.p (.sc (.int _ n))]=>some (.p (.ps (J n) 1 (Q n)),m) | _=>none) none
def emS (M:Mo) (k j:Nat) (X:List PV) (J:aab) (Q:aac) (fs:List Int) (t:Int):FuncId→Nat→Nat→Option (AV→AV):=cu [(93,7,1,sI .u32 t),(93,9,0,sI .i64 ((j+1:Nat):Int))]
def YV (M:Mo) (k:Nat) (i:Nat) (X:List PV) (J:aab) (Q:aac) (p r e:Int) (n:Nat) (Z:List PV):bN:=gI (tyC M k i X J Q p r e n Z) (tyD M k i X J Q p r e n Z) [] [] [(82,1,6),(82,1,7),(19,1,5)] (tyS M k i X J Q p r e n Z)
def abS:Sc:= .fin
def Nd (M:Mo) (k:Nat) (i:Nat) (X:List PV) (J:aab) (Q:aac) (p r e:Int) (n:Nat) (Z:List PV):aA:=
 (.must (aM (↑i:Int) M.tys.length&&true&&true)
 (.must (isInt sa (av (ac6 cK M.tys) (aB i*2))&&(isInt sa (av (ac6 cK M.tys) (aB i*2+1))&&true)&&true)
 (.need (AV.agg [sI .i64 (aq (av (ac6 cK M.tys) (aB i*2))),sI .i64 (aq (av (ac6 cK M.tys) (aB i*2+1)))]=AV.agg [sI sa p,sI sa r])
 (.call ⟨83,[.agg [sI .i64 p,sI .i64 r]],[],.aK [.p (.ps n 1 Z),sI .i64 e],[]⟩
 (.must (((k+n)*1).ble bH&&(k+n).ble bH&&((k*1).beq (acC aj (acC AV.p X)).length&&allBy (acC AV.p Z))&&true)
 (.out (.ret (.aK []) [.ac [.mp 1 0],.ac (.ms 3 0 (k+n) 1 none::mV M),.dead,.ob (dV.gb 5) (acC aj (acC aj (acC aj (acC aj (acC AV.p X)++acC AV.p Z))))])))))))
theorem Qa (M:Mo) (k:Nat) (i:Nat) (X:List PV) (J:aab) (Q:aac) (p r e:Int) (n:Nat) (Z:List PV):aG ae bF (YV M k i X J Q p r e n Z) 1000000 82 ([sI sa (↑i:Int),AV.mp 0 0]) ([aN.ac [AV.mp 1 0],aN.ac (AV.ms 2 0 k 1 acH::mV M),aN.ob (dV.gb 5) (acC AV.p X)]) abS=Nd M k i X J Q p r e n Z:=by kernel_rfl
def YW (M:Mo) (k:Nat) (i:Nat) (X:List PV) (J:aab) (Q:aac) (e:Int) (n:Nat) (Z:List PV):bN:=aP (fuC M k i X J Q e n Z) (fuD M k i X J Q e n Z) [] [] [(86,0,0),(20,0,0)]
def abT:Sc:= .fin
def Nf (M:Mo) (k:Nat) (i:Nat) (X:List PV) (J:aab) (Q:aac) (e:Int) (n:Nat) (Z:List PV):aA:=
 (.must (aM (↑i:Int) M.fns.length&&true&&true&&(isInt sa (av (ac6 aO M.fns) (aB i*3+0))&&true&&true)&&true)
 (.call ⟨45,[sI .u32 (acu.wrap (aq (av (ac6 aO M.fns) (aB i*3+0))))],[],.p (.ps (J (acu.wrap (aq (av (ac6 aO M.fns) (aB i*3+0))))) 1 (Q (acu.wrap (aq (av (ac6 aO M.fns) (aB i*3+0)))))),[]⟩
 (.must (((k+J (acu.wrap (aq (av (ac6 aO M.fns) (aB i*3+0)))))*1).ble bH&&(k+J (acu.wrap (aq (av (ac6 aO M.fns) (aB i*3+0))))).ble bH&&((k*1).beq (acC aj (acC AV.p X)).length&&allBy (acC AV.p (Q (acu.wrap (aq (av (ac6 aO M.fns) (aB i*3+0)))))))&&true&&true&&true)
 (.must true
 (.must true
 (.out (.ret (.aK []) [.ac [.mp 1 0],.ac (.ms 3 0 (k+J (acu.wrap (aq (av (ac6 aO M.fns) (aB i*3+0))))) 1 none::mV M),.dead,.ob (dV.gb 5) (acC aj (acC aj (acC aj (acC aj (acC AV.p X)++acC AV.p (Q (acu.wrap (aq (av (ac6 aO M.fns) (aB i*3+0)))))))))])))))))
theorem Qb (M:Mo) (k:Nat) (i:Nat) (X:List PV) (J:aab) (Q:aac) (e:Int) (n:Nat) (Z:List PV):aG ae bF (YW M k i X J Q e n Z) 1000000 86 ([sI sa (↑i:Int),AV.mp 0 0]) ([aN.ac [AV.mp 1 0],aN.ac (AV.ms 2 0 k 1 acH::mV M),aN.ob (dV.gb 5) (acC AV.p X)]) abT=Nf M k i X J Q e n Z:=by kernel_rfl
def YX (M:Mo) (k:Nat) (i:Nat) (X:List PV) (J:aab) (Q:aac) (e:Int) (n:Nat) (Z:List PV):bN:=aP (taC M k i X J Q e n Z) (taD M k i X J Q e n Z) [] [] [(19,1,5),(87,0,0),(88,3,5)]
def abU:Sc:= .fin
def Ng (M:Mo) (k:Nat) (i:Nat) (X:List PV) (J:aab) (Q:aac) (e:Int) (n:Nat) (Z:List PV):aA:=
 (.must (((k+1)*1).ble bH&&(k+1).ble bH&&((k*1).beq (acC aj (acC AV.p X)).length&&true)&&true)
 (.must (aM (↑i:Int) M.dh.length&&true&&true&&(isInt acu (av (ac6 aH M.dh) (aB i*3))&&(isInt acu (av (ac6 aH M.dh) (aB i*3+1))&&(isBool (av (ac6 aH M.dh) (aB i*3+1+1))&&true))&&true&&true)&&true)
 (.call ⟨118,[.agg [sI .u32 (aq (av (ac6 aH M.dh) (aB i*3))),sI .u32 (aq (av (ac6 aH M.dh) (aB i*3+1))),.p (.sc (.bool (bg (av (ac6 aH M.dh) (aB i*3+1+1)))))],sI .u32 1048576],[],.aK [.p (.ps n 1 Z),sI .i64 e],[]⟩
 (.must (((k+1+n)*1).ble bH&&(k+1+n).ble bH&&(((k+1)*1).beq (acC aj (acC aj (acC aj (acC aj (acC AV.p X)++[sI .u8 112])))).length&&allBy (acC AV.p Z))&&true)
 (.must true
 (.out (.ret (.aK []) [.ac [.mp 1 0],.ac (.ms 3 0 (k+1+n) 1 none::mV M),.dead,.ob (dV.gb 5) (acC aj (acC aj (acC aj (acC aj (acC aj (acC aj (acC aj (acC AV.p X)++[sI .u8 112])))++acC AV.p Z))))])))))))
theorem Qc (M:Mo) (k:Nat) (i:Nat) (X:List PV) (J:aab) (Q:aac) (e:Int) (n:Nat) (Z:List PV):aG ae bF (YX M k i X J Q e n Z) 1000000 87 ([sI sa (↑i:Int),AV.mp 0 0]) ([aN.ac [AV.mp 1 0],aN.ac (AV.ms 2 0 k 1 acH::mV M),aN.ob (dV.gb 5) (acC AV.p X)]) abU=Ng M k i X J Q e n Z:=by kernel_rfl
def YY (M:Mo) (k:Nat) (i:Nat) (X:List PV) (J:aab) (Q:aac) (e:Int) (n:Nat) (Z:List PV):bN:=aP (meC M k i X J Q e n Z) (meD M k i X J Q e n Z) [] [] [(89,0,0),(88,3,5)]
def abV:Sc:= .fin
def Nh (M:Mo) (k:Nat) (i:Nat) (X:List PV) (J:aab) (Q:aac) (e:Int) (n:Nat) (Z:List PV):aA:=
 (.must (aM (↑i:Int) M.dw.length&&true&&true&&(isInt acu (av (ac6 aH M.dw) (aB i*3))&&(isInt acu (av (ac6 aH M.dw) (aB i*3+1))&&(isBool (av (ac6 aH M.dw) (aB i*3+1+1))&&true))&&true&&true)&&true)
 (.call ⟨118,[.agg [sI .u32 (aq (av (ac6 aH M.dw) (aB i*3))),sI .u32 (aq (av (ac6 aH M.dw) (aB i*3+1))),.p (.sc (.bool (bg (av (ac6 aH M.dw) (aB i*3+1+1)))))],sI .u32 65536],[],.aK [.p (.ps n 1 Z),sI .i64 e],[]⟩
 (.must (((k+n)*1).ble bH&&(k+n).ble bH&&((k*1).beq (acC aj (acC AV.p X)).length&&allBy (acC AV.p Z))&&true)
 (.must true
 (.out (.ret (.aK []) [.ac [.mp 1 0],.ac (.ms 3 0 (k+n) 1 none::mV M),.dead,.ob (dV.gb 5) (acC aj (acC aj (acC aj (acC aj (acC AV.p X)++acC AV.p Z))))]))))))
theorem Qd (M:Mo) (k:Nat) (i:Nat) (X:List PV) (J:aab) (Q:aac) (e:Int) (n:Nat) (Z:List PV):aG ae bF (YY M k i X J Q e n Z) 1000000 89 ([sI sa (↑i:Int),AV.mp 0 0]) ([aN.ac [AV.mp 1 0],aN.ac (AV.ms 2 0 k 1 acH::mV M),aN.ob (dV.gb 5) (acC AV.p X)]) abV=Nh M k i X J Q e n Z:=by kernel_rfl
def YZ (M:Mo) (k:Nat) (i:Nat) (X:List PV) (J:aab) (Q:aac) (mu:Bool) (e:Int) (n:Nat) (Z:List PV):bN:=gI (glC M k i X J Q mu e n Z) (glD M k i X J Q mu e n Z) [] [(90,0,0)] [(90,2,6),(90,2,8),(19,1,5),(90,0,1),(91,2,5)] (glS M k i X J Q mu e n Z)
def abW:Sc:= .fin
def Ni (M:Mo) (k:Nat) (i:Nat) (X:List PV) (J:aab) (Q:aac) (mu:Bool) (e:Int) (n:Nat) (Z:List PV):aA:=
 (.must (aM (↑i:Int) M.gls.length&&true&&true)
 (.must (isBool (av (ac6 bP M.gls) (aB i*2+0))&&true)
 (.need (AV.p (PV.sc (Value.bool (bg (av (ac6 bP M.gls) (aB i*2+0)))))=sB mu)
 (.test (mu)
 (.must (((k+2)*1).ble bH&&(k+2).ble bH&&((k*1).beq (acC aj (acC AV.p X)).length&&true)&&true)
 (.must (aM (↑i:Int) M.gls.length&&true&&true&&(aQ (av (ac6 bP M.gls) (aB i*2+1))&&true&&true)&&true)
 (.call ⟨119,[.p (.ps (az (av (ac6 bP M.gls) (aB i*2+1))) (aR (av (ac6 bP M.gls) (aB i*2+1))) (an (av (ac6 bP M.gls) (aB i*2+1))))],[],.aK [.p (.ps n 1 Z),sI .i64 e],[]⟩
 (.must (((k+2+n)*1).ble bH&&(k+2+n).ble bH&&(((k+2)*1).beq (acC aj (acC aj (acC aj (acC aj (acC AV.p X)++[sI .u8 127,sI .u8 1])))).length&&allBy (acC AV.p Z))&&true)
 (.out (.ret (.aK []) [.ac [.mp 1 0],.ac (.ms 3 0 (k+2+n) 1 none::mV M),.dead,.ob (dV.gb 5) (acC aj (acC aj (acC aj (acC aj (acC aj (acC aj (acC aj (acC AV.p X)++[sI .u8 127,sI .u8 1])))++acC AV.p Z))))]))))))
 (.must (((k+2)*1).ble bH&&(k+2).ble bH&&((k*1).beq (acC aj (acC AV.p X)).length&&true)&&true)
 (.must (aM (↑i:Int) M.gls.length&&true&&true&&(aQ (av (ac6 bP M.gls) (aB i*2+1))&&true&&true)&&true)
 (.call ⟨119,[.p (.ps (az (av (ac6 bP M.gls) (aB i*2+1))) (aR (av (ac6 bP M.gls) (aB i*2+1))) (an (av (ac6 bP M.gls) (aB i*2+1))))],[],.aK [.p (.ps n 1 Z),sI .i64 e],[]⟩
 (.must (((k+2+n)*1).ble bH&&(k+2+n).ble bH&&(((k+2)*1).beq (acC aj (acC aj (acC aj (acC aj (acC AV.p X)++[sI .u8 127,sI .u8 0])))).length&&allBy (acC AV.p Z))&&true)
 (.out (.ret (.aK []) [.ac [.mp 1 0],.ac (.ms 3 0 (k+2+n) 1 none::mV M),.dead,.ob (dV.gb 5) (acC aj (acC aj (acC aj (acC aj (acC aj (acC aj (acC aj (acC AV.p X)++[sI .u8 127,sI .u8 0])))++acC AV.p Z))))]))))))))))
theorem Qe (M:Mo) (k:Nat) (i:Nat) (X:List PV) (J:aab) (Q:aac) (mu:Bool) (e:Int) (n:Nat) (Z:List PV):aG ae bF (YZ M k i X J Q mu e n Z) 1000000 90 ([sI sa (↑i:Int),AV.mp 0 0]) ([aN.ac [AV.mp 1 0],aN.ac (AV.ms 2 0 k 1 acH::mV M),aN.ob (dV.gb 5) (acC AV.p X)]) abW=Ni M k i X J Q mu e n Z:=by kernel_rfl
def Y0 (M:Mo) (k:Nat) (i:Nat) (X:List PV) (J:aab) (Q:aac) (lo:Int) (l:List Ins) (e:Int) (n:Nat) (Z:List PV):bN:=gI (czC M k i X J Q lo l e n Z) (czD M k i X J Q lo l e n Z) [] [] [(94,1,6),(94,1,8),(20,0,0),(19,1,5)] (czS M k i X J Q lo l e n Z)
def abX:Sc:= .fin
def Nj (M:Mo) (k:Nat) (i:Nat) (X:List PV) (J:aab) (Q:aac) (lo:Int) (l:List Ins) (e:Int) (n:Nat) (Z:List PV):aA:=
 (.must (aM (↑i:Int) M.fns.length&&true&&true)
 (.must (isInt sa (av (ac6 aO M.fns) (aB i*3+1))&&(aQ (av (ac6 aO M.fns) (aB i*3+1+1))&&true)&&true)
 (.need (AV.agg [sI .i64 (aq (av (ac6 aO M.fns) (aB i*3+1))),AV.p (PV.ps (az (av (ac6 aO M.fns) (aB i*3+1+1))) (aR (av (ac6 aO M.fns) (aB i*3+1+1))) (an (av (ac6 aO M.fns) (aB i*3+1+1))))]=AV.agg [sI sa lo,aL l])
 (.call ⟨95,[.agg [sI .i64 lo,.p (.ps l.length 8 (ak l))]],[],.aK [.p (.ps n 1 Z),sI .i64 e],[]⟩
 (.call ⟨45,[sI .u32 (acu.wrap (↑n:Int))],[],.p (.ps (J (acu.wrap (↑n:Int))) 1 (Q (acu.wrap (↑n:Int)))),[]⟩
 (.must (((k+J (acu.wrap (↑n:Int)))*1).ble bH&&(k+J (acu.wrap (↑n:Int))).ble bH&&((k*1).beq (acC aj (acC AV.p X)).length&&allBy (acC AV.p (Q (acu.wrap (↑n:Int)))))&&true&&true&&true)
 (.must true
 (.must (((k+J (acu.wrap (↑n:Int))+n)*1).ble bH&&(k+J (acu.wrap (↑n:Int))+n).ble bH&&(((k+J (acu.wrap (↑n:Int)))*1).beq (acC aj (acC aj (acC aj (acC aj (acC AV.p X)++acC AV.p (Q (acu.wrap (↑n:Int))))))).length&&allBy (acC AV.p Z))&&true)
 (.out (.ret (.aK []) [.ac [.mp 1 0],.ac (.ms 3 0 (k+J (acu.wrap (↑n:Int))+n) 1 none::mV M),.dead,.ob (dV.gb 5) (acC aj (acC aj (acC aj (acC aj (acC aj (acC aj (acC aj (acC AV.p X)++acC AV.p (Q (acu.wrap (↑n:Int))))))++acC AV.p Z))))]))))))))))
theorem Qf (M:Mo) (k:Nat) (i:Nat) (X:List PV) (J:aab) (Q:aac) (lo:Int) (l:List Ins) (e:Int) (n:Nat) (Z:List PV):aG ae bF (Y0 M k i X J Q lo l e n Z) 1000000 94 ([sI sa (↑i:Int),AV.mp 0 0]) ([aN.ac [AV.mp 1 0],aN.ac (AV.ms 2 0 k 1 acH::mV M),aN.ob (dV.gb 5) (acC AV.p X)]) abX=Nj M k i X J Q lo l e n Z:=by kernel_rfl
def Y1 (M:Mo) (k:Nat) (i:Nat) (X:List PV) (J:aab) (Q:aac) (nm:ByteArray) (kd ix e:Int) (n:Nat) (Z:List PV):bN:=gI (exC M k i X J Q nm kd ix e n Z) (exD M k i X J Q nm kd ix e n Z) [] [] [(92,1,6),(92,1,7),(85,2,5),(19,1,5),(20,0,0)] (exS M k i X J Q nm kd ix e n Z)
def abY:Sc:= .fin
def Nk (M:Mo) (k:Nat) (i:Nat) (X:List PV) (J:aab) (Q:aac) (nm:ByteArray) (kd ix e:Int) (n:Nat) (Z:List PV):aA:=
 (.must (aM (↑i:Int) M.exs.length&&true&&true)
 (.must (isStr (av (ac6 bB M.exs) (aB i*3))&&(isInt sa (av (ac6 bB M.exs) (aB i*3+1))&&(isInt acu (av (ac6 bB M.exs) (aB i*3+1+1))&&true))&&true)
 (.need (AV.agg [AV.p (PV.sc (adf (bh (av (ac6 bB M.exs) (aB i*3))))),sI .i64 (aq (av (ac6 bB M.exs) (aB i*3+1))),sI .u32 (aq (av (ac6 bB M.exs) (aB i*3+1+1)))]=AV.agg [AV.p (PV.sc (adf nm)),sI sa kd,sI acu ix])
 (.call ⟨117,[.p (.sc (.string nm))],[],.aK [.p (.ps n 1 Z),sI .i64 e],[]⟩
 (.must (((k+n)*1).ble bH&&(k+n).ble bH&&((k*1).beq (acC aj (acC AV.p X)).length&&allBy (acC AV.p Z))&&true)
 (.must (((k+n+1)*1).ble bH&&(k+n+1).ble bH&&(((k+n)*1).beq (acC aj (acC aj (acC aj (acC aj (acC AV.p X)++acC AV.p Z)))).length&&true)&&true)
 (.call ⟨45,[sI .u32 ix],[],.p (.ps (J ix) 1 (Q ix)),[]⟩
 (.must (((k+n+1+J ix)*1).ble bH&&(k+n+1+J ix).ble bH&&(((k+n+1)*1).beq (acC aj (acC aj (acC aj (acC aj (acC aj (acC aj (acC aj (acC AV.p X)++acC AV.p Z)))++[sI .u8 (acQ.wrap kd)])))).length&&allBy (acC AV.p (Q ix)))&&true&&true&&true)
 (.must true
 (.out (.ret (.aK []) [.ac [.mp 1 0],.ac (.ms 3 0 (k+n+1+J ix) 1 none::mV M),.dead,.ob (dV.gb 5) (acC aj (acC aj (acC aj (acC aj (acC aj (acC aj (acC aj (acC aj (acC aj (acC aj (acC AV.p X)++acC AV.p Z)))++[sI .u8 (acQ.wrap kd)])))++acC AV.p (Q ix)))))])))))))))))
theorem Qg (M:Mo) (k:Nat) (i:Nat) (X:List PV) (J:aab) (Q:aac) (nm:ByteArray) (kd ix e:Int) (n:Nat) (Z:List PV):aG ae bF (Y1 M k i X J Q nm kd ix e n Z) 1000000 92 ([sI sa (↑i:Int),AV.mp 0 0]) ([aN.ac [AV.mp 1 0],aN.ac (AV.ms 2 0 k 1 acH::mV M),aN.ob (dV.gb 5) (acC AV.p X)]) abY=Nk M k i X J Q nm kd ix e n Z:=by kernel_rfl
def Y2 (M:Mo) (k:Nat) (i:Nat) (X:List PV) (J:aab) (Q:aac) (l:List Ins) (fs:List Int) (e:Int) (n:Nat) (Z:List PV):bN:=gI (elC M k i X J Q l fs e n Z) (elD M k i X J Q l fs e n Z) [(93,0)] [] [(93,1,6),(93,1,7),(19,1,5),(91,2,5),(20,0,0)] (elS M k i X J Q l fs e n Z)
def abZ:Sc:= .fin
def Nl (M:Mo) (k:Nat) (i:Nat) (X:List PV) (J:aab) (Q:aac) (l:List Ins) (fs:List Int) (e:Int) (n:Nat) (Z:List PV):aA:=
 (.must (aM (↑i:Int) M.els.length&&true&&true)
 (.must (aQ (av (ac6 aW M.els) (aB i*2))&&(aQ (av (ac6 aW M.els) (aB i*2+1))&&true)&&true)
 (.need (AV.agg [AV.p (PV.ps (az (av (ac6 aW M.els) (aB i*2))) (aR (av (ac6 aW M.els) (aB i*2))) (an (av (ac6 aW M.els) (aB i*2)))),AV.p (PV.ps (az (av (ac6 aW M.els) (aB i*2+1))) (aR (av (ac6 aW M.els) (aB i*2+1))) (an (av (ac6 aW M.els) (aB i*2+1))))]=AV.agg [aL l,AV.p (PV.ps fs.length 1 (bU acu fs))])
 (.must (((k+1)*1).ble bH&&(k+1).ble bH&&((k*1).beq (acC aj (acC AV.p X)).length&&true)&&true)
 (.call ⟨119,[.p (.ps l.length 8 (ak l))],[],.aK [.p (.ps n 1 Z),sI .i64 e],[]⟩
 (.must (((k+1+n)*1).ble bH&&(k+1+n).ble bH&&(((k+1)*1).beq (acC aj (acC aj (acC aj (acC aj (acC AV.p X)++[sI .u8 0])))).length&&allBy (acC AV.p Z))&&true)
 (.call ⟨45,[sI .u32 (acu.wrap (↑fs.length:Int))],[],.p (.ps (J (acu.wrap (↑fs.length:Int))) 1 (Q (acu.wrap (↑fs.length:Int)))),[]⟩
 (.must (((k+1+n+J (acu.wrap (↑fs.length:Int)))*1).ble bH&&(k+1+n+J (acu.wrap (↑fs.length:Int))).ble bH&&(((k+1+n)*1).beq (acC aj (acC aj (acC aj (acC aj (acC aj (acC aj (acC aj (acC AV.p X)++[sI .u8 0])))++acC AV.p Z)))).length&&allBy (acC AV.p (Q (acu.wrap (↑fs.length:Int)))))&&true&&true&&true)
 (.must true
 (.at (af ae bF 93 0 [.mp 0 0,.p (.ps fs.length 1 (bU acu fs)),sI .i64 (↑fs.length:Int),sI .i64 0] ([.ac [.mp 1 0],.ac (.ms 3 0 (k+1+n+J (acu.wrap (↑fs.length:Int))) 1 none::mV M),.dead,.ob (dV.gb 5) (acC aj (acC aj (acC aj (acC aj (acC aj (acC aj (acC aj (acC aj (acC aj (acC aj (acC AV.p X)++[sI .u8 0])))++acC AV.p Z)))++acC AV.p (Q (acu.wrap (↑fs.length:Int)))))))]) 3 46)))))))))))
theorem Qh (M:Mo) (k:Nat) (i:Nat) (X:List PV) (J:aab) (Q:aac) (l:List Ins) (fs:List Int) (e:Int) (n:Nat) (Z:List PV):aG ae bF (Y2 M k i X J Q l fs e n Z) 1000000 93 ([sI sa (↑i:Int),AV.mp 0 0]) ([aN.ac [AV.mp 1 0],aN.ac (AV.ms 2 0 k 1 acH::mV M),aN.ob (dV.gb 5) (acC AV.p X)]) abZ=Nl M k i X J Q l fs e n Z:=by kernel_rfl
def Y3 (M:Mo) (k:Nat) (i:Nat) (X:List PV) (J:aab) (Q:aac) (l:List Ins) (bs:List Int) (e:Int) (n:Nat) (Z:List PV):bN:=gI (daC M k i X J Q l bs e n Z) (daD M k i X J Q l bs e n Z) [] [] [(96,1,6),(96,1,7),(19,1,5),(91,2,5),(20,0,0)] (daS M k i X J Q l bs e n Z)
def ab0:Sc:= .fin
def Nn (M:Mo) (k:Nat) (i:Nat) (X:List PV) (J:aab) (Q:aac) (l:List Ins) (bs:List Int) (e:Int) (n:Nat) (Z:List PV):aA:=
 (.must (aM (↑i:Int) M.aY.length&&true&&true)
 (.must (aQ (av (ac6 bq M.aY) (aB i*2))&&(aQ (av (ac6 bq M.aY) (aB i*2+1))&&true)&&true)
 (.need (AV.agg [AV.p (PV.ps (az (av (ac6 bq M.aY) (aB i*2))) (aR (av (ac6 bq M.aY) (aB i*2))) (an (av (ac6 bq M.aY) (aB i*2)))),AV.p (PV.ps (az (av (ac6 bq M.aY) (aB i*2+1))) (aR (av (ac6 bq M.aY) (aB i*2+1))) (an (av (ac6 bq M.aY) (aB i*2+1))))]=AV.agg [aL l,AV.p (PV.ps bs.length 1 (bU acQ bs))])
 (.must (((k+1)*1).ble bH&&(k+1).ble bH&&((k*1).beq (acC aj (acC AV.p X)).length&&true)&&true)
 (.call ⟨119,[.p (.ps l.length 8 (ak l))],[],.aK [.p (.ps n 1 Z),sI .i64 e],[]⟩
 (.must (((k+1+n)*1).ble bH&&(k+1+n).ble bH&&(((k+1)*1).beq (acC aj (acC aj (acC aj (acC aj (acC AV.p X)++[sI .u8 0])))).length&&allBy (acC AV.p Z))&&true)
 (.call ⟨45,[sI .u32 (acu.wrap (↑bs.length:Int))],[],.p (.ps (J (acu.wrap (↑bs.length:Int))) 1 (Q (acu.wrap (↑bs.length:Int)))),[]⟩
 (.must (((k+1+n+J (acu.wrap (↑bs.length:Int)))*1).ble bH&&(k+1+n+J (acu.wrap (↑bs.length:Int))).ble bH&&(((k+1+n)*1).beq (acC aj (acC aj (acC aj (acC aj (acC aj (acC aj (acC aj (acC AV.p X)++[sI .u8 0])))++acC AV.p Z)))).length&&allBy (acC AV.p (Q (acu.wrap (↑bs.length:Int)))))&&true&&true&&true)
 (.must true
 (.must (((k+1+n+J (acu.wrap (↑bs.length:Int))+bs.length)*1).ble bH&&(k+1+n+J (acu.wrap (↑bs.length:Int))+bs.length).ble bH&&(((k+1+n+J (acu.wrap (↑bs.length:Int)))*1).beq (acC aj (acC aj (acC aj (acC aj (acC aj (acC aj (acC aj (acC aj (acC aj (acC aj (acC AV.p X)++[sI .u8 0])))++acC AV.p Z)))++acC AV.p (Q (acu.wrap (↑bs.length:Int))))))).length&&allBy (acC AV.p (bU acQ bs)))&&true)
 (.out (.ret (.aK []) [.ac [.mp 1 0],.ac (.ms 3 0 (k+1+n+J (acu.wrap (↑bs.length:Int))+bs.length) 1 none::mV M),.dead,.ob (dV.gb 5) (acC aj (acC aj (acC aj (acC aj (acC aj (acC aj (acC aj (acC aj (acC aj (acC aj (acC aj (acC aj (acC aj (acC AV.p X)++[sI .u8 0])))++acC AV.p Z)))++acC AV.p (Q (acu.wrap (↑bs.length:Int))))))++acC AV.p (bU acQ bs)))))]))))))))))))
theorem Qi (M:Mo) (k:Nat) (i:Nat) (X:List PV) (J:aab) (Q:aac) (l:List Ins) (bs:List Int) (e:Int) (n:Nat) (Z:List PV):aG ae bF (Y3 M k i X J Q l bs e n Z) 1000000 96 ([sI sa (↑i:Int),AV.mp 0 0]) ([aN.ac [AV.mp 1 0],aN.ac (AV.ms 2 0 k 1 acH::mV M),aN.ob (dV.gb 5) (acC AV.p X)]) ab0=Nn M k i X J Q l bs e n Z:=by kernel_rfl
def Y4 (M:Mo) (k:Nat) (i:Nat) (X:List PV) (J:aab) (Q:aac) (mo:ByteArray) (nm:ByteArray) (ty:Int) (EN:ByteArray→Int) (JN:aad) (QN:aae) (e:Int) (n:Nat) (Z:List PV):bN:=gI (imC M k i X J Q mo nm ty EN JN QN e n Z) (imD M k i X J Q mo nm ty EN JN QN e n Z) [] [] [(84,1,6),(84,1,7),(85,2,5),(19,1,5),(20,0,0)] (imS M k i X J Q mo nm ty EN JN QN e n Z)
def ab1:Sc:= .fin
def No (M:Mo) (k:Nat) (i:Nat) (X:List PV) (J:aab) (Q:aac) (mo:ByteArray) (nm:ByteArray) (ty:Int) (EN:ByteArray→Int) (JN:aad) (QN:aae) (e:Int) (n:Nat) (Z:List PV):aA:=
 (.must (aM (↑i:Int) M.aZ.length&&true&&true)
 (.must (isStr (av (ac6 bp M.aZ) (aB i*3))&&(isStr (av (ac6 bp M.aZ) (aB i*3+1))&&(isInt sa (av (ac6 bp M.aZ) (aB i*3+1+1))&&true))&&true)
 (.need (AV.agg [AV.p (PV.sc (adf (bh (av (ac6 bp M.aZ) (aB i*3))))),AV.p (PV.sc (adf (bh (av (ac6 bp M.aZ) (aB i*3+1))))),sI .i64 (aq (av (ac6 bp M.aZ) (aB i*3+1+1)))]=AV.agg [AV.p (PV.sc (adf mo)),AV.p (PV.sc (adf nm)),sI sa ty])
 (.call ⟨117,[.p (.sc (.string mo))],[],.aK [.p (.ps (JN mo) 1 (QN mo)),sI .i64 (EN mo)],[]⟩
 (.must (((k+JN mo)*1).ble bH&&(k+JN mo).ble bH&&((k*1).beq (acC aj (acC AV.p X)).length&&allBy (acC AV.p (QN mo)))&&true)
 (.call ⟨117,[.p (.sc (.string nm))],[],.aK [.p (.ps (JN nm) 1 (QN nm)),sI .i64 (EN nm)],[]⟩
 (.must (((k+JN mo+JN nm)*1).ble bH&&(k+JN mo+JN nm).ble bH&&(((k+JN mo)*1).beq (acC aj (acC aj (acC aj (acC aj (acC AV.p X)++acC AV.p (QN mo))))).length&&allBy (acC AV.p (QN nm)))&&true)
 (.must (((k+JN mo+JN nm+1)*1).ble bH&&(k+JN mo+JN nm+1).ble bH&&(((k+JN mo+JN nm)*1).beq (acC aj (acC aj (acC aj (acC aj (acC aj (acC aj (acC aj (acC AV.p X)++acC AV.p (QN mo))))++acC AV.p (QN nm))))).length&&true)&&true)
 (.call ⟨45,[sI .u32 (acu.wrap ty)],[],.p (.ps (J (acu.wrap ty)) 1 (Q (acu.wrap ty))),[]⟩
 (.must (((k+JN mo+JN nm+1+J (acu.wrap ty))*1).ble bH&&(k+JN mo+JN nm+1+J (acu.wrap ty)).ble bH&&(((k+JN mo+JN nm+1)*1).beq (acC aj (acC aj (acC aj (acC aj (acC aj (acC aj (acC aj (acC aj (acC aj (acC aj (acC AV.p X)++acC AV.p (QN mo))))++acC AV.p (QN nm))))++[sI .u8 0])))).length&&allBy (acC AV.p (Q (acu.wrap ty))))&&true&&true&&true)
 (.must true
 (.out (.ret (.aK []) [.ac [.mp 1 0],.ac (.ms 3 0 (k+JN mo+JN nm+1+J (acu.wrap ty)) 1 none::mV M),.dead,.ob (dV.gb 5) (acC aj (acC aj (acC aj (acC aj (acC aj (acC aj (acC aj (acC aj (acC aj (acC aj (acC aj (acC aj (acC aj (acC AV.p X)++acC AV.p (QN mo))))++acC AV.p (QN nm))))++[sI .u8 0])))++acC AV.p (Q (acu.wrap ty))))))])))))))))))))
theorem Qj (M:Mo) (k:Nat) (i:Nat) (X:List PV) (J:aab) (Q:aac) (mo:ByteArray) (nm:ByteArray) (ty:Int) (EN:ByteArray→Int) (JN:aad) (QN:aae) (e:Int) (n:Nat) (Z:List PV):aG ae bF (Y4 M k i X J Q mo nm ty EN JN QN e n Z) 1000000 84 ([sI sa (↑i:Int),AV.mp 0 0]) ([aN.ac [AV.mp 1 0],aN.ac (AV.ms 2 0 k 1 acH::mV M),aN.ob (dV.gb 5) (acC AV.p X)]) ab1=No M k i X J Q mo nm ty EN JN QN e n Z:=by kernel_rfl
def Y5 (M:Mo) (k:Nat) (j:Nat) (X:List PV) (J:aab) (Q:aac) (fs:List Int) (t:Int):bN:=gI aF (emD M k j X J Q fs t) [(93,0)] [(93,0,1)] [(93,7,0),(93,7,1),(20,0,0)] (emS M k j X J Q fs t)
def ab2:Sc:= .fin
def FB (M:Mo) (k:Nat) (j:Nat) (X:List PV) (J:aab) (Q:aac) (fs:List Int) (t:Int):aA:=
 (.test (decide ((↑j:Int)<(↑fs.length:Int)))
 (.must (aM (↑j:Int) fs.length&&true&&true)
 (.must (isInt acu (av (bU acu fs) (aB j*1))&&true)
 (.need (sI .u32 (aq (av (bU acu fs) (aB j*1)))=sI acu t)
 (.call ⟨45,[sI .u32 t],[],.p (.ps (J t) 1 (Q t)),[]⟩
 (.must (((k+J t)*1).ble bH&&(k+J t).ble bH&&((k*1).beq (acC aj (acC AV.p X)).length&&allBy (acC AV.p (Q t)))&&true&&true&&true)
 (.must true
 (.need (sI .i64 (sa.wrap ((↑j:Int)+1))=sI sa (↑(j+1):Int))
 (.at (af ae bF 93 0 [.mp 0 0,.p (.ps fs.length 1 (bU acu fs)),sI .i64 (↑fs.length:Int),sI .i64 (↑(j+1):Int)] ([.ac [.mp 1 0],.ac (.ms 3 0 (k+J t) 1 none::mV M),.dead,.ob (dV.gb 5) (acC aj (acC aj (acC aj (acC aj (acC AV.p X)++acC AV.p (Q t)))))]) 3 46)))))))))
 (.out (.ret (.aK []) [.ac [.mp 1 0],.ac (.ms 3 0 k 1 none::mV M),.dead,.ob (dV.gb 5) (acC aj (acC AV.p X))])))
theorem G8 (M:Mo) (k:Nat) (j:Nat) (X:List PV) (J:aab) (Q:aac) (fs:List Int) (t:Int):grow ae bF (Y5 M k j X J Q fs t) 1000000 true (af ae bF 93 0 ([AV.mp 0 0,AV.p (PV.ps fs.length 1 (bU acu fs)),sI sa (↑fs.length:Int),sI sa (↑j:Int)]) ([aN.ac [AV.mp 1 0],aN.ac (AV.ms 3 0 k 1 acH::mV M),aN.dead,aN.ob (dV.gb 5) (acC AV.p X)]) 3 46) ab2 atEnd=FB M k j X J Q fs t:=by kernel_rfl
theorem je (v:PV):aj (.p v) = .p v:=rfl
theorem mq (n:Int) (l:List AV):allBy (sI .u8 n::l)=allBy l:=rfl
theorem aX (l:List PV):acC aj (acC AV.p l)=acC AV.p l:=by rw[adq];rfl
theorem au.xz {f:FuncId} {args:List AV} {m m':Mem} {v:AV} (h:au ae env f args m v m'):au ae bF f args m v m':=h.env fun _ _ q=>q
theorem gS {a:Int} (h:0≤a∧a<4294967296):au ae env 45 [sI .u32 a] [] (.p (.ps (eU a).length 1 (bt (eU a)))) []:=gE h
abbrev gB (X:List Nat):aN:= .ob (.gb 5) ((bt X).map .p)
abbrev wB (M:Mo) (b k:Nat):aN:= .ac (.ms b 0 k 1 none::mV M)
def Item (M:Mo) (f:FuncId) (i:Nat) (Y:List Nat):Prop:= ∀X:List Nat,X.length+Y.length≤10000000000000 →
 au ae bF f [sI .i64 i,.mp 0 0] [.ac [.mp 1 0],wB M 2 X.length,gB X] (.aK []) [.ac [.mp 1 0],wB M 3 (X++Y).length,.dead,gB (X++Y)]
theorem qE {M:Mo} {k k':Nat} {l l':List AV} (hk:k=k') (hl:l=l'):Out.ret (.aK []) [.ac [.mp 1 0],.ac (.ms 3 0 k 1 none::mV M),.dead,.ob (.gb 5) l] = .ret (.aK []) [.ac [.mp 1 0],.ac (.ms 3 0 k' 1 none::mV M),.dead,.ob (.gb 5) l']:=by subst hk;subst hl;rfl
theorem dJ (c:Nat) (l:List Nat):bt (c::l) = .sc (.int .u8 (c:Int))::bt l:=rfl
theorem eL:bt []=[]:=rfl
theorem Qk {bs:List Int} (h : ∀b∈bs,0≤b):bU .u8 bs=bt (bs.map Int.toNat):=by
 unfold bU bt
 rw[adq]
 refine List.map_congr_left fun b hb=> ?_
 have:=h b hb
 simp only[Function.comp_apply]
 rw[Int.toNat_of_nonneg this]
theorem UZ {lo:Int} {l:List Ins} (hc:cZ l≤1000000):(wg lo l).length≤20000011:=by
 have h1:=rV hc
 have h2:=kE 4 lo.toNat
 unfold wg
 split
 · split<;>simp only[dT,od,acA]<;>omega
 · simp
theorem FC (s:ByteArray) (hs:s.data.toList.length≤1000000):(Bo s).length≤1000005:=by
 have:=jd (s.data.toList.length:Int)
 unfold Bo
 split
 · rw[dT,ya,ov];omega
 · simp
set_option maxHeartbeats 1000000 in
theorem Ql (M:Mo) (i:Nat) (x:Ty) (hx:M.tys[i]? = some x):Item M 82 i (Bn x):=by
 intro X hX
 have ct:bH=70368744177664:=rfl
 have hi:i<M.tys.length:=(ee.1 hx).1
 have c:=aU (z:=2) (enc:=cK) (fun _=>rfl) hx
 have Bs:(M.tys.flatMap cK).getD (i*2+0) .bk = .sc (.int .i64 x.p):=c 0 (by decide)
 have Bt:(M.tys.flatMap cK).getD (i*2) .bk = .sc (.int .i64 x.p):=c 0 (by decide)
 have Dp:(M.tys.flatMap cK).getD (i*2+1) .bk = .sc (.int .i64 x.r):=c 1 (by decide)
 have hin:aM (i:Int) M.tys.length=true:=by simp only[aM,dp,decide_eq_true_eq];omega
 refine aa aI (Qa M X.length i (bt X) jU qU x.p x.r (BQ x) (Bn x).length (bt (Bn x))) ?_
 simp only[Nd,bu,aA.ok,isStr,isInt,aQ,isBool,bh,aq,bg,az,aR,an,acN,ac7,ade,beq_self_eq_true,adr,aX,acx,je,uv,vb,allBy_append,cX,gy,mq,hin,gR,jg,eH,Bs,Bt,Dp]
 simp only[dp,acO,fw,ov,bz,dT,od,acA,ac8,ct]
 repeat' first | exact ads | with_reducible refine adt ?_ ?_ | with_reducible exact au.xz (P7 x) | omega | exact qE (by first | rfl | (simp only[eV,dT,od,acA,ov];omega)) (by first | (simp only[eV,bn,dJ,eL,acx,uv,vb,vt,aaq,Ps];done) | (simp only[eV,bn,dJ,eL,acx,uv,vb,vt,aaq,Ps];rfl))
set_option maxHeartbeats 1000000 in
theorem Qm (M:Mo) (i:Nat) (x:Fu) (hx:M.fns[i]? = some x):Item M 86 i (JG x):=by
 intro X hX
 have ct:bH=70368744177664:=rfl
 have hi:i<M.fns.length:=(ee.1 hx).1
 have c:=aU (z:=3) (enc:=aO) (fun _=>rfl) hx
 have Bs:(M.fns.flatMap aO).getD (i*3+0) .bk = .sc (.int .i64 x.ty):=c 0 (by decide)
 have Bt:(M.fns.flatMap aO).getD (i*3) .bk = .sc (.int .i64 x.ty):=c 0 (by decide)
 have Dp:(M.fns.flatMap aO).getD (i*3+1) .bk = .sc (.int .i64 x.lo):=c 1 (by decide)
 have Np:(M.fns.flatMap aO).getD (i*3+1+1) .bk = .ps (x.l).length 8 (ak (x.l)):=c 2 (by decide)
 have Nq:(M.fns.flatMap aO).getD (i*3+2) .bk = .ps (x.l).length 8 (ak (x.l)):=c 2 (by decide)
 have hin:aM (i:Int) M.fns.length=true:=by simp only[aM,dp,decide_eq_true_eq];omega
 refine aa aI (Qb M X.length i (bt X) jU qU 0 0 []) ?_
 simp only[Nf,bu,aA.ok,isStr,isInt,aQ,isBool,bh,aq,bg,az,aR,an,acN,ac7,ade,beq_self_eq_true,adr,aX,acx,je,uv,vb,allBy_append,cX,gy,mq,hin,gR,jg,eH,Bs,Bt,Dp,Np,Nq]
 simp only[dp,acO,fw,ov,bz,dT,od,acA,ac8,ct]
 simp only[JG,eV,dT,od,acA,ov] at hX
 repeat' first | exact ads | with_reducible refine adt ?_ ?_ | with_reducible exact au.xz (gS (fH x.ty)) | omega | exact qE (by first | rfl | (simp only[JG,eV,dT,od,acA,ov];omega)) (by first | (simp only[JG,eV,bn,dJ,eL,acx,uv,vb,vt,aaq,Ps];done) | (simp only[JG,eV,bn,dJ,eL,acx,uv,vb,vt,aaq,Ps];rfl))
set_option maxHeartbeats 1000000 in
theorem Qn (M:Mo) (i:Nat) (x:Li) (hx:M.dh[i]? = some x) (hw:tN x):Item M 87 i (JH x):=by
 intro X hX
 have ct:bH=70368744177664:=rfl
 have hi:i<M.dh.length:=(ee.1 hx).1
 have c:=aU (z:=3) (enc:=aH) (fun _=>rfl) hx
 have Bs:(M.dh.flatMap aH).getD (i*3+0) .bk = .sc (.int .u32 x.mn):=c 0 (by decide)
 have Bt:(M.dh.flatMap aH).getD (i*3) .bk = .sc (.int .u32 x.mn):=c 0 (by decide)
 have Dp:(M.dh.flatMap aH).getD (i*3+1) .bk = .sc (.int .u32 x.mx):=c 1 (by decide)
 have Np:(M.dh.flatMap aH).getD (i*3+1+1) .bk = .sc (.bool x.cap):=c 2 (by decide)
 have Nq:(M.dh.flatMap aH).getD (i*3+2) .bk = .sc (.bool x.cap):=c 2 (by decide)
 have hin:aM (i:Int) M.dh.length=true:=by simp only[aM,dp,decide_eq_true_eq];omega
 refine aa aI (Qc M X.length i (bt X) jU qU (zJ 1048576 x) (zW 1048576 x).length (bt (zW 1048576 x))) ?_
 simp only[Ng,bu,aA.ok,isStr,isInt,aQ,isBool,bh,aq,bg,az,aR,an,acN,ac7,ade,beq_self_eq_true,adr,aX,acx,je,uv,vb,allBy_append,cX,gy,mq,hin,gR,jg,eH,Bs,Bt,Dp,Np,Nq]
 simp only[dp,acO,fw,ov,bz,dT,od,acA,ac8,ct]
 simp only[JH,eV,dT,od,acA,ov] at hX
 repeat' first | exact ads | with_reducible refine adt ?_ ?_ | with_reducible exact au.xz (G7 1048576 x hw) | omega | exact qE (by first | rfl | (simp only[JH,eV,dT,od,acA,ov];omega)) (by first | (simp only[JH,eV,bn,dJ,eL,acx,uv,vb,vt,aaq,Ps];done) | (simp only[JH,eV,bn,dJ,eL,acx,uv,vb,vt,aaq,Ps];rfl))
set_option maxHeartbeats 1000000 in
theorem Qo (M:Mo) (i:Nat) (x:Li) (hx:M.dw[i]? = some x) (hw:tN x):Item M 89 i (M6 x):=by
 intro X hX
 have ct:bH=70368744177664:=rfl
 have hi:i<M.dw.length:=(ee.1 hx).1
 have c:=aU (z:=3) (enc:=aH) (fun _=>rfl) hx
 have Bs:(M.dw.flatMap aH).getD (i*3+0) .bk = .sc (.int .u32 x.mn):=c 0 (by decide)
 have Bt:(M.dw.flatMap aH).getD (i*3) .bk = .sc (.int .u32 x.mn):=c 0 (by decide)
 have Dp:(M.dw.flatMap aH).getD (i*3+1) .bk = .sc (.int .u32 x.mx):=c 1 (by decide)
 have Np:(M.dw.flatMap aH).getD (i*3+1+1) .bk = .sc (.bool x.cap):=c 2 (by decide)
 have Nq:(M.dw.flatMap aH).getD (i*3+2) .bk = .sc (.bool x.cap):=c 2 (by decide)
 have hin:aM (i:Int) M.dw.length=true:=by simp only[aM,dp,decide_eq_true_eq];omega
 refine aa aI (Qd M X.length i (bt X) jU qU (zJ 65536 x) (zW 65536 x).length (bt (zW 65536 x))) ?_
 simp only[Nh,bu,aA.ok,isStr,isInt,aQ,isBool,bh,aq,bg,az,aR,an,acN,ac7,ade,beq_self_eq_true,adr,aX,acx,je,uv,vb,allBy_append,cX,gy,mq,hin,gR,jg,eH,Bs,Bt,Dp,Np,Nq]
 simp only[dp,acO,fw,ov,bz,dT,od,acA,ac8,ct]
 simp only[M6,eV,dT,od,acA,ov] at hX
 repeat' first | exact ads | with_reducible refine adt ?_ ?_ | with_reducible exact au.xz (G7 65536 x hw) | omega | exact qE (by first | rfl | (simp only[M6,eV,dT,od,acA,ov];omega)) (by first | (simp only[M6,eV,bn,dJ,eL,acx,uv,vb,vt,aaq,Ps];done) | (simp only[M6,eV,bn,dJ,eL,acx,uv,vb,vt,aaq,Ps];rfl))
set_option maxHeartbeats 1000000 in
theorem Qp (M:Mo) (i:Nat) (x:Gl) (hx:M.gls[i]? = some x) (hw:sV x.l) (hc:cZ x.l≤1000000):Item M 90 i (JI x):=by
 intro X hX
 have ct:bH=70368744177664:=rfl
 have hi:i<M.gls.length:=(ee.1 hx).1
 have c:=aU (z:=2) (enc:=bP) (fun _=>rfl) hx
 have Bs:(M.gls.flatMap bP).getD (i*2+0) .bk = .sc (.bool x.mu):=c 0 (by decide)
 have Bt:(M.gls.flatMap bP).getD (i*2) .bk = .sc (.bool x.mu):=c 0 (by decide)
 have Dp:(M.gls.flatMap bP).getD (i*2+1) .bk = .ps (x.l).length 8 (ak (x.l)):=c 1 (by decide)
 have hin:aM (i:Int) M.gls.length=true:=by simp only[aM,dp,decide_eq_true_eq];omega
 refine aa aI (Qe M X.length i (bt X) jU qU x.mu (dg gw x.l) (pz x.l).length (bt (pz x.l))) ?_
 simp only[Ni,bu,aA.ok,isStr,isInt,aQ,isBool,bh,aq,bg,az,aR,an,acN,ac7,ade,beq_self_eq_true,adr,aX,acx,je,uv,vb,allBy_append,cX,gy,mq,hin,gR,jg,eH,Bs,Bt,Dp]
 simp only[dp,acO,fw,ov,bz,dT,od,acA,ac8,ct]
 simp only[JI,eV,dT,od,acA,ov] at hX
 refine⟨trivial,trivial,trivial,fun hm=> ?_,fun hm=> ?_⟩
 repeat' first | exact ads | with_reducible refine adt ?_ ?_ | with_reducible exact au.xz (ue hw hc) | omega | exact qE (by first | rfl | (simp only[JI,hm,if_true,pn,if_false,eV,dT,od,acA,ov];omega)) (by first | (simp only[JI,hm,if_true,pn,if_false,eV,bn,dJ,eL,acx,uv,vb,vt,aaq,Ps];done) | (simp only[JI,hm,if_true,pn,if_false,eV,bn,dJ,eL,acx,uv,vb,vt,aaq,Ps];rfl))
set_option maxHeartbeats 1000000 in
theorem Qq (M:Mo) (i:Nat) (x:Fu) (hx:M.fns[i]? = some x) (hw:sV x.l) (hc:cZ x.l≤1000000):Item M 94 i (BR x):=by
 intro X hX
 have ct:bH=70368744177664:=rfl
 have hi:i<M.fns.length:=(ee.1 hx).1
 have c:=aU (z:=3) (enc:=aO) (fun _=>rfl) hx
 have Bs:(M.fns.flatMap aO).getD (i*3+0) .bk = .sc (.int .i64 x.ty):=c 0 (by decide)
 have Bt:(M.fns.flatMap aO).getD (i*3) .bk = .sc (.int .i64 x.ty):=c 0 (by decide)
 have Dp:(M.fns.flatMap aO).getD (i*3+1) .bk = .sc (.int .i64 x.lo):=c 1 (by decide)
 have Np:(M.fns.flatMap aO).getD (i*3+1+1) .bk = .ps (x.l).length 8 (ak (x.l)):=c 2 (by decide)
 have Nq:(M.fns.flatMap aO).getD (i*3+2) .bk = .ps (x.l).length 8 (ak (x.l)):=c 2 (by decide)
 have hin:aM (i:Int) M.fns.length=true:=by simp only[aM,dp,decide_eq_true_eq];omega
 refine aa aI (Qf M X.length i (bt X) jU qU x.lo x.l (NV x.lo x.l) (wg x.lo x.l).length (bt (wg x.lo x.l))) ?_
 simp only[Nj,bu,aA.ok,isStr,isInt,aQ,isBool,bh,aq,bg,az,aR,an,acN,ac7,ade,beq_self_eq_true,adr,aX,acx,je,uv,vb,allBy_append,cX,gy,mq,hin,gR,jg,eH,Bs,Bt,Dp,Np,Nq]
 simp only[dp,acO,fw,ov,bz,dT,od,acA,ac8,ct]
 simp only[BR,eV,dT,od,acA,ov] at hX
 repeat' first | exact ads | with_reducible refine adt ?_ ?_ | with_reducible exact au.xz (O0 x.lo hw hc) | with_reducible exact au.xz (gS (fH _)) | omega | exact qE (by first | rfl | (simp only[BR,eV,dT,od,acA,ov];omega)) (by first | (simp only[BR,eV,bn,dJ,eL,acx,uv,vb,vt,aaq,Ps];done) | (simp only[BR,eV,bn,dJ,eL,acx,uv,vb,vt,aaq,Ps];rfl))
set_option maxHeartbeats 1000000 in
theorem Qr (M:Mo) (i:Nat) (x:Ex) (hx:M.exs[i]? = some x) (hs:x.nm.data.toList.length≤1000000) (hu:0≤x.ix∧x.ix<4294967296):Item M 92 i (JK x):=by
 intro X hX
 have ct:bH=70368744177664:=rfl
 have hi:i<M.exs.length:=(ee.1 hx).1
 have c:=aU (z:=3) (enc:=bB) (fun _=>rfl) hx
 have Bs:(M.exs.flatMap bB).getD (i*3+0) .bk = .sc (.string x.nm):=c 0 (by decide)
 have Bt:(M.exs.flatMap bB).getD (i*3) .bk = .sc (.string x.nm):=c 0 (by decide)
 have Dp:(M.exs.flatMap bB).getD (i*3+1) .bk = .sc (.int .i64 x.kind):=c 1 (by decide)
 have Np:(M.exs.flatMap bB).getD (i*3+1+1) .bk = .sc (.int .u32 x.ix):=c 2 (by decide)
 have Nq:(M.exs.flatMap bB).getD (i*3+2) .bk = .sc (.int .u32 x.ix):=c 2 (by decide)
 have hin:aM (i:Int) M.exs.length=true:=by simp only[aM,dp,decide_eq_true_eq];omega
 refine aa aI (Qg M X.length i (bt X) jU qU x.nm x.kind x.ix (l9 x.nm) (Bo x.nm).length (bt (Bo x.nm))) ?_
 simp only[Nk,bu,aA.ok,isStr,isInt,aQ,isBool,bh,aq,bg,az,aR,an,acN,ac7,ade,beq_self_eq_true,adr,aX,acx,je,uv,vb,allBy_append,cX,gy,mq,hin,gR,jg,eH,Bs,Bt,Dp,Np,Nq]
 simp only[dp,acO,fw,ov,bz,dT,od,acA,ac8,ct]
 simp only[JK,eV,dT,od,acA,ov] at hX
 repeat' first | exact ads | with_reducible refine adt ?_ ?_ | with_reducible exact au.xz (Br x.nm hs) | with_reducible exact au.xz (gS hu) | omega | exact qE (by first | rfl | (simp only[JK,eV,dT,od,acA,ov];omega)) (by first | (simp only[JK,eV,bn,dJ,eL,acx,uv,vb,vt,aaq,Ps];done) | (simp only[JK,eV,bn,dJ,eL,acx,uv,vb,vt,aaq,Ps];rfl))
set_option maxHeartbeats 1000000 in
theorem Qs (M:Mo) (i:Nat) (x:Da) (hx:M.aY[i]? = some x) (hw:sV x.l) (hc:cZ x.l≤1000000) (hb:x.bs.length≤1000000) (h0 : ∀b∈x.bs,0≤b):Item M 96 i (JM x):=by
 intro X hX
 have ct:bH=70368744177664:=rfl
 have hi:i<M.aY.length:=(ee.1 hx).1
 have c:=aU (z:=2) (enc:=bq) (fun _=>rfl) hx
 have Bs:(M.aY.flatMap bq).getD (i*2+0) .bk = .ps (x.l).length 8 (ak (x.l)):=c 0 (by decide)
 have Bt:(M.aY.flatMap bq).getD (i*2) .bk = .ps (x.l).length 8 (ak (x.l)):=c 0 (by decide)
 have Dp:(M.aY.flatMap bq).getD (i*2+1) .bk = .ps (x.bs).length 1 (bU .u8 (x.bs)):=c 1 (by decide)
 have hbt:=Qk h0
 have hin:aM (i:Int) M.aY.length=true:=by simp only[aM,dp,decide_eq_true_eq];omega
 refine aa aI (Qi M X.length i (bt X) jU qU x.l x.bs (dg gw x.l) (pz x.l).length (bt (pz x.l))) ?_
 simp only[Nn,bu,aA.ok,isStr,isInt,aQ,isBool,bh,aq,bg,az,aR,an,acN,ac7,ade,beq_self_eq_true,adr,aX,acx,je,uv,vb,allBy_append,cX,gy,mq,hin,gR,jg,eH,Bs,Bt,Dp,hbt]
 simp only[dp,acO,fw,ov,bz,dT,od,acA,ac8,ct]
 simp only[JM,eV,dT,od,acA,ov] at hX
 repeat' first | exact ads | with_reducible refine adt ?_ ?_ | with_reducible exact au.xz (ue hw hc) | with_reducible exact au.xz (gS (fH _)) | omega | exact qE (by first | rfl | (simp only[JM,eV,dT,od,acA,ov];omega)) (by first | (simp only[JM,eV,bn,dJ,eL,acx,uv,vb,vt,aaq,Ps];done) | (simp only[JM,eV,bn,dJ,eL,acx,uv,vb,vt,aaq,Ps];rfl))
set_option maxHeartbeats 1000000 in
theorem Qt (M:Mo) (i:Nat) (x:Im) (hx:M.aZ[i]? = some x) (hs:x.mo.data.toList.length≤1000000) (ht:x.nm.data.toList.length≤1000000):Item M 84 i (JF x):=by
 intro X hX
 have ct:bH=70368744177664:=rfl
 have hi:i<M.aZ.length:=(ee.1 hx).1
 have c:=aU (z:=3) (enc:=bp) (fun _=>rfl) hx
 have Bs:(M.aZ.flatMap bp).getD (i*3+0) .bk = .sc (.string x.mo):=c 0 (by decide)
 have Bt:(M.aZ.flatMap bp).getD (i*3) .bk = .sc (.string x.mo):=c 0 (by decide)
 have Dp:(M.aZ.flatMap bp).getD (i*3+1) .bk = .sc (.string x.nm):=c 1 (by decide)
 have Np:(M.aZ.flatMap bp).getD (i*3+1+1) .bk = .sc (.int .i64 x.ty):=c 2 (by decide)
 have Nq:(M.aZ.flatMap bp).getD (i*3+2) .bk = .sc (.int .i64 x.ty):=c 2 (by decide)
 have hin:aM (i:Int) M.aZ.length=true:=by simp only[aM,dp,decide_eq_true_eq];omega
 refine aa aI (Qj M X.length i (bt X) jU qU x.mo x.nm x.ty l9 (fun s=>(Bo s).length) (fun s=>bt (Bo s)) 0 0 []) ?_
 simp only[No,bu,aA.ok,isStr,isInt,aQ,isBool,bh,aq,bg,az,aR,an,acN,ac7,ade,beq_self_eq_true,adr,aX,acx,je,uv,vb,allBy_append,cX,gy,mq,hin,gR,jg,eH,Bs,Bt,Dp,Np,Nq]
 simp only[dp,acO,fw,ov,bz,dT,od,acA,ac8,ct]
 simp only[JF,eV,dT,od,acA,ov] at hX
 repeat' first | exact ads | with_reducible refine adt ?_ ?_ | with_reducible exact au.xz (Br x.mo hs) | with_reducible exact au.xz (Br x.nm ht) | with_reducible exact au.xz (gS (fH _)) | omega | exact qE (by first | rfl | (simp only[JF,eV,dT,od,acA,ov];omega)) (by first | (simp only[JF,eV,bn,dJ,eL,acx,uv,vb,vt,aaq,Ps];done) | (simp only[JF,eV,bn,dJ,eL,acx,uv,vb,vt,aaq,Ps];rfl))
end Go.Proofs.YtncncijedmfpjaaGreatDoor.N
end
