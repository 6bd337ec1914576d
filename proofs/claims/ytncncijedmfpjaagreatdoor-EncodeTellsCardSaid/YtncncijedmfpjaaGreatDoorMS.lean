import Derived.Test.YtncncijedmfpjaaGreatDoorMP
import Derived.Test.YtncncijedmfpjaaGreatDoorMQ
import Derived.Test.YtncncijedmfpjaaGreatDoorMR
open Nat renaming beq→ba,ble_eq→ajp,le_refl→c9
open Go.IntKind renaming u32→aeG,i64→re,u8→ajw
open Go.Proofs.Tryz renaming prog→ae
open Option renaming some→ae2,none→ae1
open List renaming length_append→dC,replicate→db,map→aeM,append_assoc→tl,length_cons→ml,nil_append→Hm,take→aeQ,drop→aky
open BitVec renaming ofInt→df
open Bool renaming and_eq_true→di,and_true→ajQ
noncomputable section
section
set_option linter.unusedSimpArgs false
set_option linter.unusedVariables false
namespace Go.Proofs.YtncncijedmfpjaaGreatDoor.N
open Go Go.Am
def wdC (n:Int) (k i:Nat) (X:List PV) (J:aah) (Q:aal) (f:FuncId) (args:List AV) (m:Mem):Option (AV×Mem):=cond (ba f 52) (match args with | [.p (.sc (.int _ n))]=>some (.os (some 0) (J n) 1 (Q n),[.tok]) | _=>none) none
def wlS (n:Int) (k i:Nat) (X:List PV) (J:aah) (Q:aal):FuncId→Nat→Nat→Option (AV→AV):=bJ [(104,5,1,sI .i64 ((i+1:Nat):Int))]
def Yo (p r e:Int) (k i:Nat) (X:List PV) (J:aah) (Q:aal) (f:FuncId) (args:List AV) (m:Mem):Option (AV×Mem):=cond (ba f 67||ba f 101) (some (sI .i64 e,m)) (cond (ba f 45) (match args with | [.p (.sc (.int _ n))]=>some (.os (some 0) (J n) 1 (Q n),[.tok]) | _=>none) (cond (ba f 104) (match args with | [.p (.sc (.int _ n))]=>some (.os (some 0) (J n) 1 (Q n),[.tok]) | _=>none) none))
def alD (p r e:Int) (k i:Nat) (X:List PV) (J:aah) (Q:aal):FuncId→Nat→Nat→Option (AV→AV):=bJ [(83,13,0,sI .i64 ((i+1:Nat):Int))]
def alE (p r e:Int) (k i:Nat) (X:List PV) (J:aah) (Q:aal):FuncId→Nat→Nat→Option (AV→AV):=bJ [(83,13,0,sI .i64 ((i+1:Nat):Int))]
def kmC (mn mx:Int) (cap:Bool) (most e:Int) (J:aah) (Q:aal) (f:FuncId) (args:List AV) (m:Mem):Option (AV×Mem):=cond (ba f 77||ba f 103) (some (sI .i64 e,m)) (cond (ba f 45) (match args with | [.p (.sc (.int _ n))]=>some (.os (some 0) (J n) 1 (Q n),[.tok]) | _=>none) (cond (ba f 52) (match args with | [.p (.sc (.int _ n))]=>some (.os (some 0) (J n) 1 (Q n),[.tok]) | _=>none) none))
def npC (s:ByteArray) (b e:Int) (n:Nat) (Z:List PV) (J:aah) (Q:aal) (f:FuncId) (args:List AV) (m:Mem):Option (AV×Mem):=cond (ba f 74||ba f 102) (some (sI .i64 b,m)) (cond (ba f 45) (match args with | [.p (.sc (.int _ n))]=>some (.os (some 0) (J n) 1 (Q n),[.tok]) | _=>none) (cond (ba f 52) (match args with | [.p (.sc (.int _ n))]=>some (.os (some 0) (J n) 1 (Q n),[.tok]) | _=>none) (cond (ba f 105) (some (.aK [.p (.ps n 1 Z),sI .i64 e],m)) none)))
def alF (l:List Ins) (e:Int) (n:Nat) (Z:List PV) (f:FuncId) (args:List AV) (m:Mem):Option (AV×Mem):=cond (ba f 106) (some (.aK [.p (.ps n 1 Z),sI .i64 e],m)) none
def ruC (n:Int) (k:Nat) (X:List PV) (f:FuncId) (args:List AV) (m:Mem):Option (AV×Mem):=cond (ba f 52) (some (.os (some 0) k 1 X,[.tok])) none
def olS (zs:List Int) (n cap i:Nat) (z:Int):FuncId→Nat→Nat→Option (AV→AV):=bJ [(14,5,5,sI .u8 z),(14,4,1,sI .i64 ((i+1:Nat):Int))]
def alG (n:Int) (k:Nat) (X:List PV) (f:FuncId) (args:List AV) (m:Mem):Option (AV×Mem):=cond (ba f 97) (some (.os (some 0) k 1 X,[.tok])) none
def ahy (n:Int) (k:Nat) (i:Nat) (X:List PV) (J:aah) (Q:aal):bA:=aM (wdC n k i X J Q) aC [(104,0)] [] []
def alH:Sc:= .fin
def So (n:Int) (k:Nat) (i:Nat) (X:List PV) (J:aah) (Q:aal):aA:=
 (.call ⟨52,[sI .u32 (aeG.wrap n)],[],.os (some 0) (J (aeG.wrap n)) 1 (Q (aeG.wrap n)),[.tok]⟩
 (.at (ah ae env 104 0 [sI .i64 n,.os (some 0) (J (aeG.wrap n)) 1 (Q (aeG.wrap n)),sI .i64 0] ([.tok]) 0 17)))
theorem Wo (n:Int) (k:Nat) (i:Nat) (X:List PV) (J:aah) (Q:aal):aI ae env (ahy n k i X J Q) 1000000 104 ([sI re n]) ([]) alH=So n k i X J Q:=by kernel_rfl
def ahz (n:Int) (k:Nat) (i:Nat) (X:List PV) (J:aah) (Q:aal):bA:=dY aE aC [(104,0)] [(104,0,1)] [(104,6,2)] (wlS n k i X J Q)
def alI:Sc:= .fin
def Ji (n:Int) (k:Nat) (i:Nat) (X:List PV) (J:aah) (Q:aal):aA:=
 (.test (decide ((↑i:Int)<n))
 (.must (((k+1)*1).ble aR&&(k+1).ble aR&&true)
 (.need (sI .i64 (re.wrap ((↑i:Int)+1))=sI re (↑(i+1):Int))
 (.at (ah ae env 104 0 [sI .i64 n,.os (some 0) (k+1) 1 (X++[.sc (.int .u8 127)]),sI .i64 (↑(i+1):Int)] ([.tok]) 0 17))))
 (.out (.ret (.os (some 0) k 1 X) [.tok])))
theorem K2 (n:Int) (k:Nat) (i:Nat) (X:List PV) (J:aah) (Q:aal):grow ae env (ahz n k i X J Q) 1000000 true (ah ae env 104 0 ([sI re n,AV.os (ae2 0) k 1 X,sI re (↑i:Int)]) ([bq.tok]) 0 17) alI atEnd=Ji n k i X J Q:=by kernel_rfl
def acQ (p r e:Int) (k:Nat) (i:Nat) (X:List PV) (J:aah) (Q:aal):bA:=aM (Yo p r e k i X J Q) (Yo p r e k i X J Q) [] [(53,0,0)] [(53,5,4),(53,6,4)]
def ahA:Sc:= .fin
def DX (p r e:Int) (k:Nat) (i:Nat) (X:List PV) (J:aah) (Q:aal):aA:=
 (.call ⟨101,[.agg [sI .i64 p,sI .i64 r]],[],sI .i64 e,[]⟩
 (.test (e != 0)
 (.out (.ret (.aK [bB,sI .i64 e]) []))
 (.call ⟨104,[sI .i64 p],[],.os (some 0) (J p) 1 (Q p),[.tok]⟩
 (.must (((1+J p)*1).ble aR&&(1+J p).ble aR&&true)
 (.call ⟨104,[sI .i64 r],[],.os (some 0) (J r) 1 (Q r),[.tok]⟩
 (.must (((1+J p+J r)*1).ble aR&&(1+J p+J r).ble aR&&true)
 (.out (.ret (.aK [.os (some 0) (1+J p+J r) 1 (.sc (.int .u8 96)::([].append (Q p)).append (Q r)),sI .i64 0]) [.tok]))))))))
theorem Gp (p r e:Int) (k:Nat) (i:Nat) (X:List PV) (J:aah) (Q:aal):aI ae env (acQ p r e k i X J Q) 1000000 53 ([AV.agg [sI re p,sI re r]]) ([]) ahA=DX p r e k i X J Q:=by kernel_rfl
def ahB (p r e:Int) (k:Nat) (i:Nat) (X:List PV) (J:aah) (Q:aal):bA:=aM (Yo p r e k i X J Q) (Yo p r e k i X J Q) [(83,3)] [(83,0,0)] [(83,9,4)]
def alJ:Sc:= .fin
def Jj (p r e:Int) (k:Nat) (i:Nat) (X:List PV) (J:aah) (Q:aal):aA:=
 (.call ⟨67,[.agg [sI .i64 p,sI .i64 r]],[],sI .i64 e,[]⟩
 (.test (e != 0)
 (.out (.ret (.aK [bB,sI .i64 e]) []))
 (.call ⟨45,[sI .u32 (aeG.wrap p)],[],.os (some 0) (J (aeG.wrap p)) 1 (Q (aeG.wrap p)),[.tok]⟩
 (.must (((1+J (aeG.wrap p))*1).ble aR&&(1+J (aeG.wrap p)).ble aR&&true)
 (.at (ah ae env 83 3 [.os (some 0) (1+J (aeG.wrap p)) 1 (.sc (.int .u8 96)::[].append (Q (aeG.wrap p))),.agg [sI .i64 p,sI .i64 r],sI .i64 0,sI .i64 p,sI .i64 0] ([.tok]) 0 36))))))
theorem K3 (p r e:Int) (k:Nat) (i:Nat) (X:List PV) (J:aah) (Q:aal):aI ae env (ahB p r e k i X J Q) 1000000 83 ([AV.agg [sI re p,sI re r]]) ([]) alJ=Jj p r e k i X J Q:=by kernel_rfl
def acR (p r e:Int) (k:Nat) (i:Nat) (X:List PV) (J:aah) (Q:aal):bA:=dY (Yo p r e k i X J Q) (Yo p r e k i X J Q) [(83,3)] [(83,0,4)] [(83,12,2),(83,9,4)] (alD p r e k i X J Q)
def ahC:Sc:= .fin
def DY (p r e:Int) (k:Nat) (i:Nat) (X:List PV) (J:aah) (Q:aal):aA:=
 (.test (decide ((↑i:Int)<p))
 (.must (((k+1)*1).ble aR&&(k+1).ble aR&&true)
 (.need (sI .i64 (re.wrap ((↑i:Int)+1))=sI re (↑(i+1):Int))
 (.at (ah ae env 83 3 [.os (some 0) (k+1) 1 (X++[.sc (.int .u8 127)]),.agg [sI .i64 p,sI .i64 r],sI .i64 0,sI .i64 p,sI .i64 (↑(i+1):Int)] ([.tok]) 0 36))))
 (.call ⟨45,[sI .u32 (aeG.wrap r)],[],.os (some 0) (J (aeG.wrap r)) 1 (Q (aeG.wrap r)),[.tok]⟩
 (.must (((k+J (aeG.wrap r))*1).ble aR&&(k+J (aeG.wrap r)).ble aR&&true)
 (.at (ah ae env 83 3 [.os (some 0) (k+J (aeG.wrap r)) 1 (X++Q (aeG.wrap r)),.agg [sI .i64 p,sI .i64 r],sI .i64 1,sI .i64 r,sI .i64 0] ([.tok]) 0 36)))))
theorem Gq (p r e:Int) (k:Nat) (i:Nat) (X:List PV) (J:aah) (Q:aal):grow ae env (acR p r e k i X J Q) 1000000 true (ah ae env 83 3 ([AV.os (ae2 0) k 1 X,AV.agg [sI re p,sI re r],sI re 0,sI re p,sI re (↑i:Int)]) ([bq.tok]) 0 36) ahC atEnd=DY p r e k i X J Q:=by kernel_rfl
def acS (p r e:Int) (k:Nat) (i:Nat) (X:List PV) (J:aah) (Q:aal):bA:=dY (Yo p r e k i X J Q) (Yo p r e k i X J Q) [(83,3)] [(83,0,4)] [(83,12,2)] (alE p r e k i X J Q)
def ahD:Sc:= .fin
def DZ (p r e:Int) (k:Nat) (i:Nat) (X:List PV) (J:aah) (Q:aal):aA:=
 (.test (decide ((↑i:Int)<r))
 (.must (((k+1)*1).ble aR&&(k+1).ble aR&&true)
 (.need (sI .i64 (re.wrap ((↑i:Int)+1))=sI re (↑(i+1):Int))
 (.at (ah ae env 83 3 [.os (some 0) (k+1) 1 (X++[.sc (.int .u8 127)]),.agg [sI .i64 p,sI .i64 r],sI .i64 1,sI .i64 r,sI .i64 (↑(i+1):Int)] ([.tok]) 0 36))))
 (.out (.ret (.aK [.os (some 0) k 1 X,sI .i64 0]) [.tok])))
theorem Gr (p r e:Int) (k:Nat) (i:Nat) (X:List PV) (J:aah) (Q:aal):grow ae env (acS p r e k i X J Q) 1000000 true (ah ae env 83 3 ([AV.os (ae2 0) k 1 X,AV.agg [sI re p,sI re r],sI re 1,sI re r,sI re (↑i:Int)]) ([bq.tok]) 0 36) ahD atEnd=DZ p r e k i X J Q:=by kernel_rfl
def ahE (mn mx:Int) (cap:Bool) (most e:Int) (J:aah) (Q:aal):bA:=aM (kmC mn mx cap most e J Q) (kmC mn mx cap most e J Q) [] [(118,0,0),(118,0,1)] [(118,6,4),(118,0,2)]
def alK:Sc:= .fin
def Jk (mn mx:Int) (cap:Bool) (most e:Int) (J:aah) (Q:aal):aA:=
 (.call ⟨77,[.agg [sI .u32 mn,sI .u32 mx,.p (.sc (.bool cap))],sI .u32 most],[],sI .i64 e,[]⟩
 (.test (e != 0)
 (.out (.ret (.aK [bB,sI .i64 e]) []))
 (.test (!cap)
 (.call ⟨45,[sI .u32 mn],[],.os (some 0) (J mn) 1 (Q mn),[.tok]⟩
 (.must (((1+J mn)*1).ble aR&&(1+J mn).ble aR&&true)
 (.must true
 (.out (.ret (.aK [.os (some 0) (1+J mn) 1 (.sc (.int .u8 0)::[].append (Q mn)),sI .i64 0]) [.tok])))))
 (.call ⟨45,[sI .u32 mn],[],.os (some 0) (J mn) 1 (Q mn),[.tok]⟩
 (.call ⟨45,[sI .u32 mx],[],.os (some 0) (J mx) 1 (Q mx),[.tok]⟩
 (.must (((1+J mn)*1).ble aR&&(1+J mn).ble aR&&true&&(((1+J mn+J mx)*1).ble aR&&(1+J mn+J mx).ble aR&&true&&true)&&true)
 (.must true
 (.out (.ret (.aK [.os (some 0) (1+J mn+J mx) 1 (.sc (.int .u8 1)::([].append (Q mn)).append (Q mx)),sI .i64 0]) [.tok])))))))))
theorem K4 (mn mx:Int) (cap:Bool) (most e:Int) (J:aah) (Q:aal):aI ae env (ahE mn mx cap most e J Q) 1000000 118 ([AV.agg [sI aeG mn,sI aeG mx,sB cap],sI aeG most]) ([]) alK=Jk mn mx cap most e J Q:=by kernel_rfl
def acT (mn mx:Int) (cap:Bool) (most e:Int) (J:aah) (Q:aal):bA:=aM (kmC mn mx cap most e J Q) (kmC mn mx cap most e J Q) [] [(55,0,0),(55,0,1)] [(55,6,4),(55,0,2)]
def ahF:Sc:= .fin
def D0 (mn mx:Int) (cap:Bool) (most e:Int) (J:aah) (Q:aal):aA:=
 (.call ⟨103,[.agg [sI .u32 mn,sI .u32 mx,.p (.sc (.bool cap))],sI .u32 most],[],sI .i64 e,[]⟩
 (.test (e != 0)
 (.out (.ret (.aK [bB,sI .i64 e]) []))
 (.test (!cap)
 (.call ⟨52,[sI .u32 mn],[],.os (some 0) (J mn) 1 (Q mn),[.tok]⟩
 (.must (((1+J mn)*1).ble aR&&(1+J mn).ble aR&&true)
 (.must true
 (.out (.ret (.aK [.os (some 0) (1+J mn) 1 (.sc (.int .u8 0)::[].append (Q mn)),sI .i64 0]) [.tok])))))
 (.call ⟨52,[sI .u32 mn],[],.os (some 0) (J mn) 1 (Q mn),[.tok]⟩
 (.call ⟨52,[sI .u32 mx],[],.os (some 0) (J mx) 1 (Q mx),[.tok]⟩
 (.must (((1+J mn)*1).ble aR&&(1+J mn).ble aR&&true&&(((1+J mn+J mx)*1).ble aR&&(1+J mn+J mx).ble aR&&true&&true)&&true)
 (.must true
 (.out (.ret (.aK [.os (some 0) (1+J mn+J mx) 1 (.sc (.int .u8 1)::([].append (Q mn)).append (Q mx)),sI .i64 0]) [.tok])))))))))
theorem Gs (mn mx:Int) (cap:Bool) (most e:Int) (J:aah) (Q:aal):aI ae env (acT mn mx cap most e J Q) 1000000 55 ([AV.agg [sI aeG mn,sI aeG mx,sB cap],sI aeG most]) ([]) ahF=D0 mn mx cap most e J Q:=by kernel_rfl
def ahG (s:ByteArray) (b e:Int) (n:Nat) (Z:List PV) (J:aah) (Q:aal):bA:=aM (npC s b e n Z J Q) (npC s b e n Z J Q) [] [(117,0,0),(117,0,1)] [(117,6,5)]
def alL:Sc:= .fin
def Jl (s:ByteArray) (b e:Int) (n:Nat) (Z:List PV) (J:aah) (Q:aal):aA:=
 (.test (decide ((↑s.data.toList.length:Int)>1048576))
 (.out (.ret (.aK [bB,sI .i64 3]) []))
 (.call ⟨74,[.os (some 0) s.data.toList.length 1 (aeM eE s.data.toList)],[.tok],sI .i64 b,[.tok]⟩
 (.test (decide (b≥0))
 (.out (.ret (.aK [bB,sI .i64 4]) []))
 (.call ⟨45,[sI .u32 (aeG.wrap (↑s.data.toList.length:Int))],[],.os (some 0) (J (aeG.wrap (↑s.data.toList.length:Int))) 1 (Q (aeG.wrap (↑s.data.toList.length:Int))),[.tok]⟩
 (.must (((J (aeG.wrap (↑s.data.toList.length:Int))+s.data.toList.length)*1).ble aR&&(J (aeG.wrap (↑s.data.toList.length:Int))+s.data.toList.length).ble aR&&true)
 (.out (.ret (.aK [.os (some 0) (J (aeG.wrap (↑s.data.toList.length:Int))+s.data.toList.length) 1 (Q (aeG.wrap (↑s.data.toList.length:Int))++aeM eE s.data.toList),sI .i64 0]) [.tok])))))))
theorem K5 (s:ByteArray) (b e:Int) (n:Nat) (Z:List PV) (J:aah) (Q:aal):aI ae env (ahG s b e n Z J Q) 1000000 117 ([AV.p (PV.sc (Value.string s))]) ([]) alL=Jl s b e n Z J Q:=by kernel_rfl
def acU (s:ByteArray) (b e:Int) (n:Nat) (Z:List PV) (J:aah) (Q:aal):bA:=aM (npC s b e n Z J Q) (npC s b e n Z J Q) [] [(105,0,0),(105,0,1)] [(105,6,6)]
def ahH:Sc:= .fin
def D1 (s:ByteArray) (b e:Int) (n:Nat) (Z:List PV) (J:aah) (Q:aal):aA:=
 (.test (decide ((↑s.data.toList.length:Int)>1048576))
 (.out (.ret (.aK [bB,sI .i64 3]) []))
 (.call ⟨102,[.os (some 0) s.data.toList.length 1 (aeM eE s.data.toList)],[.tok],sI .i64 b,[.tok]⟩
 (.test (decide (b≥0))
 (.out (.ret (.aK [bB,sI .i64 4]) []))
 (.call ⟨52,[sI .u32 (aeG.wrap (↑s.data.toList.length:Int))],[],.os (some 0) (J (aeG.wrap (↑s.data.toList.length:Int))) 1 (Q (aeG.wrap (↑s.data.toList.length:Int))),[.tok]⟩
 (.must (((J (aeG.wrap (↑s.data.toList.length:Int))+s.data.toList.length)*1).ble aR&&(J (aeG.wrap (↑s.data.toList.length:Int))+s.data.toList.length).ble aR&&true)
 (.out (.ret (.aK [.os (some 0) (J (aeG.wrap (↑s.data.toList.length:Int))+s.data.toList.length) 1 (Q (aeG.wrap (↑s.data.toList.length:Int))++aeM eE s.data.toList),sI .i64 0]) [.tok])))))))
theorem Gt (s:ByteArray) (b e:Int) (n:Nat) (Z:List PV) (J:aah) (Q:aal):aI ae env (acU s b e n Z J Q) 1000000 105 ([AV.p (PV.sc (Value.string s))]) ([]) ahH=D1 s b e n Z J Q:=by kernel_rfl
def acV (s:ByteArray) (b e:Int) (n:Nat) (Z:List PV) (J:aah) (Q:aal):bA:=aM (npC s b e n Z J Q) aC [] [] []
def ahI:Sc:= .fin
def Wp (s:ByteArray) (b e:Int) (n:Nat) (Z:List PV) (J:aah) (Q:aal):aA:=
 (.call ⟨105,[.p (.sc (.string s))],[],.aK [.p (.ps n 1 Z),sI .i64 e],[]⟩
 (.out (.ret (.p (.ps n 1 Z)) [])))
theorem Sp (s:ByteArray) (b e:Int) (n:Nat) (Z:List PV) (J:aah) (Q:aal):aI ae env (acV s b e n Z J Q) 1000000 54 ([AV.p (PV.sc (Value.string s))]) ([]) ahI=Wp s b e n Z J Q:=by kernel_rfl
def acW (l:List Ins) (e:Int) (n:Nat) (Z:List PV):bA:=aM (alF l e n Z) aC [] [] []
def ahJ:Sc:= .fin
def Wq (l:List Ins) (e:Int) (n:Nat) (Z:List PV):aA:=
 (.call ⟨106,[.p (.ps l.length 8 (aj l))],[],.aK [.p (.ps n 1 Z),sI .i64 e],[]⟩
 (.out (.ret (.p (.ps n 1 Z)) [])))
theorem Sq (l:List Ins) (e:Int) (n:Nat) (Z:List PV):aI ae env (acW l e n Z) 1000000 56 ([aL l]) ([]) ahJ=Wq l e n Z:=by kernel_rfl
def ahK (n:Int) (k:Nat) (X:List PV):bA:=aM (ruC n k X) aC [] [] []
def alM:Sc:= .fin
def acX (n:Int) (k:Nat) (X:List PV):aA:=
 (.call ⟨52,[sI .u32 (aeG.wrap n)],[],.os (some 0) k 1 X,[.tok]⟩
 (.out (.ret (.os (some 0) k 1 X) [.tok])))
theorem Wr (n:Int) (k:Nat) (X:List PV):aI ae env (ahK n k X) 1000000 26 ([sI re n]) ([]) alM=acX n k X:=by kernel_rfl
def ahL:bA:=aM aE aC [(14,0)] [] [(14,1,3)]
def alN:Sc:= .fin
def Sr (zs:List Int) (n:Nat) (cap:Nat) (i:Nat) (z:Int):aA:=
 (.must ((aB cap).ble cap&&true&&true)
 (.at (ah ae env 14 0 [.ms 0 (bif cap.beq 0 then 0 else 0) (aB cap-0) 1 (some (cap-0)),sI .i64 0] ([.pc (bN ajw zs)]) 1 22)))
theorem Ws (zs:List Int) (n:Nat) (cap:Nat) (i:Nat) (z:Int):aI ae env ahL 1000000 14 ([AV.ms 0 0 n 1 (ae2 cap)]) ([bq.pc (bN ajw zs)]) alN=Sr zs n cap i z:=by kernel_rfl
def ahM (zs:List Int) (n:Nat) (cap:Nat) (i:Nat) (z:Int):bA:=dY aE aC [(14,0)] [(14,0,1)] [(14,5,4),(14,5,5),(14,5,7),(14,5,8)] (olS zs n cap i z)
def alO:Sc:= .fin
def Jm (zs:List Int) (n:Nat) (cap:Nat) (i:Nat) (z:Int):aA:=
 (.test (decide ((↑i:Int)<(↑cap:Int)))
 (.must (aP (↑i:Int) cap&&true&&true)
 (.must (isInt ajw (aq (bN ajw zs) (0+(aB i)*1))&&true)
 (.need (sI .u8 (au (aq (bN ajw zs) (0+(aB i)*1)))=sI ajw z)
 (.must (aP (↑i:Int) cap&&true&&true)
 (.must ((0+(aB i)*1+1).ble (bN ajw zs).length&&true&&true&&true)
 (.need (sI .i64 (re.wrap ((↑i:Int)+1))=sI re (↑(i+1):Int))
 (.at (ah ae env 14 0 [.ms 0 0 cap 1 (some cap),sI .i64 (↑(i+1):Int)] ([.pc (dz (bN ajw zs) (0+(aB i)*1) [.sc (.int .u8 (ajw.wrap (↑(df 8 z ^^^ df 8 90).toNat:Int)))])]) 1 22))))))))
 (.out (.ret (.aK []) [.pc (bN ajw zs)])))
theorem K6 (zs:List Int) (n:Nat) (cap:Nat) (i:Nat) (z:Int):grow ae env (ahM zs n cap i z) 1000000 true (ah ae env 14 0 ([AV.ms 0 0 cap 1 (ae2 cap),sI re (↑i:Int)]) ([bq.pc (bN ajw zs)]) 1 22) alO atEnd=Jm zs n cap i z:=by kernel_rfl
def ahN:bA:=aM aE aC [] [] []
def alP:Sc:= .fin
def acY:aA:=
 (.out (.ret (.aK []) []))
theorem Wt:aI ae env ahN 1000000 14 ([AV.os ae1 0 0 []]) ([]) alP=acY:=by kernel_rfl
def ahO:bA:=aM aE aC [] [] [(8,2,1),(8,2,3)]
def alQ:Sc:= .fin
def Ss (n:Nat) (k:Nat) (X:List PV) (Y:List PV):aA:=
 (.must (pV (aeQ (n*1) (aky 0 (aeM AV.p X)))&&(0+n*1).ble (aeM AV.p X).length&&(aeM qw (aeQ (n*1) (aky 0 (aeM AV.p X)))).all isByte&&true)
 (.must (Y.all isByte&&true)
 (.out (.ret (.p (.sc (.bool ((ByteArray.mk (aeM Am.byteOf (aeM qw (aeQ (n*1) (aky 0 (aeM AV.p X))))).toArray).data.toList==(ByteArray.mk (aeM Am.byteOf Y).toArray).data.toList)))) [.ob (dS.gb 5) (aeM av (aeM AV.p X))]))))
theorem Wu (n:Nat) (k:Nat) (X:List PV) (Y:List PV):aI ae env ahO 1000000 8 ([AV.ms 0 0 n 1 ae1,AV.p (PV.ps k 1 Y)]) ([bq.ob (dS.gb 5) (aeM AV.p X)]) alQ=Ss n k X Y:=by kernel_rfl
def acZ (n:Int) (k:Nat) (X:List PV):bA:=aM (alG n k X) aC [] [] []
def ahP:Sc:= .fin
def K7 (n:Int) (k:Nat) (X:List PV):aA:=
 (.call ⟨97,[sI .u32 n,.fn (Fn.func 98) [] []],[],.os (some 0) k 1 X,[.tok]⟩
 (.out (.ret (.os (some 0) k 1 X) [.tok])))
theorem Su (n:Int) (k:Nat) (X:List PV):aI ae env (acZ n k X) 1000000 45 ([sI aeG n]) ([]) ahP=K7 n k X:=by kernel_rfl
theorem gx : ∀l:List Nat,(bt l).all isByte=true
 |[]=>rfl
 |_::l=>by simp[bt,isByte]
theorem pQ {a:Int} (h:0≤a∧a<4294967296):az ae env 45 [sI .u32 a] [] (.os (some 0) (jU a) 1 (qU a)) [.tok]:=by
 obtain⟨n,rfl⟩:=Int.eq_ofNat_of_zero_le h.1
 refine aa aH (Su n (pU 4 n).length (bt (pU 4 n))) ?_
 simp only[K7,aA.ok]
 refine⟨aa aH (Kj n) ?_,rfl⟩
 simp only[IG,aV,aA.ok]
 have k:=Kn 4 n [] (by omega) (by omega) (by simp) (by omega)
 rw[Hm,aT] at k
 exact aU.kJ 5 1 (c9 1) (by kernel_rfl) (by kernel_rfl) (aU.Az (by kernel_rfl) k)
theorem kP {a:Int} (h:0≤a∧a<4294967296):az ae env 52 [sI .u32 a] [] (.os (some 0) (jU a) 1 (qU a)) [.tok]:=by
 obtain⟨n,rfl⟩:=Int.eq_ofNat_of_zero_le h.1
 refine aa aH (FI n) ?_
 simp only[Dx,aV,aA.ok]
 have k:=FL 4 n [] (by omega) (by omega) (by simp) (by omega)
 rw[Hm,aT] at k
 exact aU.kJ 3 1 (c9 1) (by kernel_rfl) (by kernel_rfl) (aU.Az (by kernel_rfl) k)
theorem eN (n:Int):0≤aeG.wrap n∧aeG.wrap n<4294967296:=by rw[afA];omega
theorem Wv (n:Int):az ae env 26 [sI .i64 n] [] (.os (some 0) (jU (aeG.wrap n)) 1 (qU (aeG.wrap n))) [.tok]:=
 aa aH (Wr n (jU (aeG.wrap n)) (qU (aeG.wrap n))) ⟨kP (eN n),rfl⟩
theorem eg (n:Int):(eV n).length≤5:=kK 4 _
theorem gy (n:Int):(eU n).length≤5:=kK 4 _
theorem gH (n:Int):jU n=(eU n).length:=rfl
theorem jA (n:Int):qU n=bt (eU n):=rfl
theorem K8 (n:Int):jU (aeG.wrap n)=(eV n).length:=rfl
theorem K9 (n:Int):qU (aeG.wrap n)=bt (eV n):=rfl
theorem ac0 (n:Int) (hn:n≤1000) : ∀(r i:Nat) (X:List Nat),(i:Int)+r=n→X.length+r≤1000000 →
  aU ae env (ah ae env 104 0 [sI .i64 n,.os (some 0) X.length 1 (bt X),sI .i64 i] [.tok] 0 17) (.ret (.os (some 0) (X++db r 127).length 1 (bt (X++db r 127))) [.tok]):=by
 have bw:aR=70368744177664:=rfl
 intro r
 induction r with
 |zero=>
  intro i X hi hX
  refine af aH (K2 n X.length i (bt X) (fun _=>0) (fun _=>[])) ?_
  simp only[Ji,aA.ok,decide_eq_true_eq,decide_eq_false_iff_not]
  exact⟨fun h=>by omega,fun _=>by simp⟩
 |succ r ih=>
  intro i X hi hX
  refine af aH (K2 n X.length i (bt X) (fun _=>0) (fun _=>[])) ?_
  simp only[Ji,aA.ok,decide_eq_true_eq,decide_eq_false_iff_not,ajQ,di,ajp,bw]
  refine⟨fun h=>⟨by omega,by rw[aQ (by omega) (by omega)];rfl,?_⟩,fun h=>by omega⟩
  have k:=ih (i+1) (X++[127]) (by push_cast;omega) (by simp;omega)
  rw[dC,aS,tl] at k
  exact k
theorem La (n:Int) (h0:0≤n) (hn:n≤1000):az ae env 104 [sI .i64 n] [] (.os (some 0) (HM n).length 1 (bt (HM n))) [.tok]:=by
 refine aa aH (Wo n 0 0 [] jU qU) ?_
 simp only[So,aA.ok]
 refine⟨kP (eN n),?_⟩
 have:=eg n
 exact ac0 n hn n.toNat 0 (eV n) (by omega) (by omega)
theorem zo {t:Option Nat} {n m:Nat} {X Y:List PV} {u:AV} {mm:Mem} (h:X=Y) (h':n=m):Out.ret (.aK [.os t n 1 X,u]) mm = .ret (.aK [.os t m 1 Y,u]) mm:=by subst h;rw[h']
theorem uu (x:Ty):(vv x=0∧0≤x.p∧x.p≤255∧0≤x.r∧x.r≤1)∨vv x=2:=by
 unfold vv
 split
 · rename_i h;exact .inl ⟨rfl,h⟩
 · exact .inr rfl
theorem vR (n:Int):(HM n).length≤5+n.toNat:=by
 have:=eg n
 unfold HM
 rw[dC,List.length_replicate];omega
theorem Sv (x:Ty):az ae env 53 [.agg [sI .i64 x.p,sI .i64 x.r]] [] (.aK [.p (.ps (sF x).length 1 (bt (sF x))),sI .i64 (vv x)]) []:=by
 have bw:aR=70368744177664:=rfl
 rcases uu x with⟨h,h1,h2,h3,h4⟩ | h
 · have l1:=vR x.p
   have l2:=vR x.r
   refine az.lI (tok:=some 0) (m':=[.tok]) (aa aH (Gp x.p x.r (vv x) 0 0 [] (fun n=>(HM n).length) (fun n=>bt (HM n))) ?_)
   simp only[DX,aV,aA.ok,ajQ,di,ajp,bw]
   refine⟨zm x,fun q=> ?_,fun _=>⟨La x.p h1 (by omega),by omega,La x.r h3 (by omega),by omega,?_⟩⟩
   · rw[h] at q;cases q
   · rw[h]
     exact zo (by simp[sF,h,bt]) (by simp[sF,h];omega)
 · have e:sF x=[]:=by unfold sF;rw[if_neg (by omega)]
   rw[e]
   refine az.jw (m':=[]) (aa aH (Gp x.p x.r (vv x) 0 0 [] (fun n=>(HM n).length) (fun n=>bt (HM n))) ?_)
   simp only[DX,aV,aA.ok]
   exact⟨zm x,fun _=>(by first | trivial | rfl),fun q=>by rw[h] at q;cases q⟩
theorem Ww (p r e:Int) (hr:r≤1000) : ∀(k i:Nat) (X:List Nat),(i:Int)+k=r→X.length+k≤1000000 →
  aU ae env (ah ae env 83 3 [.os (some 0) X.length 1 (bt X),.agg [sI .i64 p,sI .i64 r],sI .i64 1,sI .i64 r,sI .i64 i] [.tok] 0 36) (.ret (.aK [.os (some 0) (X++db k 127).length 1 (bt (X++db k 127)),sI .i64 0]) [.tok]):=by
 have bw:aR=70368744177664:=rfl
 intro k
 induction k with
 |zero=>
  intro i X hi hX
  refine af aH (Gr p r e X.length i (bt X) jU qU) ?_
  simp only[DZ,aA.ok,decide_eq_true_eq,decide_eq_false_iff_not]
  exact⟨fun h=>by omega,fun _=>by simp⟩
 |succ k ih=>
  intro i X hi hX
  refine af aH (Gr p r e X.length i (bt X) jU qU) ?_
  simp only[DZ,aA.ok,decide_eq_true_eq,decide_eq_false_iff_not,ajQ,di,ajp,bw]
  refine⟨fun h=>⟨by omega,by rw[aQ (by omega) (by omega)];rfl,?_⟩,fun h=>by omega⟩
  have q:=ih (i+1) (X++[127]) (by push_cast;omega) (by simp;omega)
  rw[dC,aS,tl] at q
  exact q
theorem Wx (p r e:Int) (hp:p≤1000) (h0:0≤r) (hr:r≤1000) : ∀(k i:Nat) (X:List Nat),(i:Int)+k=p→X.length+k≤100000 →
  aU ae env (ah ae env 83 3 [.os (some 0) X.length 1 (bt X),.agg [sI .i64 p,sI .i64 r],sI .i64 0,sI .i64 p,sI .i64 i] [.tok] 0 36) (.ret (.aK [.os (some 0) (X++db k 127++HM r).length 1 (bt (X++db k 127++HM r)),sI .i64 0]) [.tok]):=by
 have bw:aR=70368744177664:=rfl
 intro k
 induction k with
 |zero=>
  intro i X hi hX
  have l1:=eg r
  refine af aH (Gq p r e X.length i (bt X) jU qU) ?_
  simp only[DY,aA.ok,decide_eq_true_eq,decide_eq_false_iff_not,ajQ,di,ajp,bw,K8,K9]
  refine⟨fun h=>by omega,fun _=>⟨pQ (eN r),by omega,?_⟩⟩
  have q:=Ww p r e hr r.toNat 0 (X++eV r) (by omega) (by rw[dC];omega)
  rw[show(X++eV r:List Nat).length=X.length+(eV r).length by simp,aS X (eV r)] at q
  rw[show X++db 0 127++HM r=X++eV r++db r.toNat 127 by simp[HM]]
  exact q
 |succ k ih=>
  intro i X hi hX
  refine af aH (Gq p r e X.length i (bt X) jU qU) ?_
  simp only[DY,aA.ok,decide_eq_true_eq,decide_eq_false_iff_not,ajQ,di,ajp,bw]
  refine⟨fun h=>⟨by omega,by rw[aQ (by omega) (by omega)];rfl,?_⟩,fun h=>by omega⟩
  have q:=ih (i+1) (X++[127]) (by push_cast;omega) (by simp;omega)
  rw[show(X++[127]:List Nat).length=X.length+1 by simp,aS X [127],tl X [127]] at q
  exact q
theorem Wy (x:Ty):az ae env 83 [.agg [sI .i64 x.p,sI .i64 x.r]] [] (.aK [.p (.ps (sF x).length 1 (bt (sF x))),sI .i64 (vv x)]) []:=by
 have bw:aR=70368744177664:=rfl
 rcases uu x with⟨h,h1,h2,h3,h4⟩ | h
 · have l1:=eg x.p
   refine az.lI (tok:=some 0) (m':=[.tok]) (aa aH (K3 x.p x.r (vv x) 0 0 [] jU qU) ?_)
   simp only[Jj,aV,aA.ok,ajQ,di,ajp,bw,K8,K9]
   refine⟨yD x,fun q=> ?_,fun _=>⟨pQ (eN x.p),by omega,?_⟩⟩
   · rw[h] at q;cases q
   · have k:=Wx x.p x.r (vv x) (by omega) h3 (by omega) x.p.toNat 0 (96::eV x.p) (by omega) (by simp;omega)
     have e:96::eV x.p++db x.p.toNat 127++HM x.r=sF x:=by unfold sF HM;rw[if_pos h];simp
     rw[e] at k
     rw[h]
     have e2:(96::eV x.p).length=1+(eV x.p).length:=by rw[ml];omega
     rw[e2] at k
     exact k
 · have e:sF x=[]:=by unfold sF;rw[if_neg (by omega)]
   rw[e]
   refine az.jw (m':=[]) (aa aH (K3 x.p x.r (vv x) 0 0 [] jU qU) ?_)
   simp only[Jj,aV,aA.ok]
   exact⟨yD x,fun _=>(by first | trivial | rfl),fun q=>by rw[h] at q;cases q⟩
theorem Cp (most:Int) (x:Li):yC most x=0∨yC most x=2:=by
 unfold yC
 split
 · exact .inr rfl
 · exact .inl rfl
theorem Sw (most:Int) (x:Li):(tr most x).length≤11:=by
 have:=gy x.mn
 have:=gy x.mx
 unfold tr
 split
 · split<;>simp only[ml,dC]<;>omega
 · simp
theorem Lb (most:Int) (x:Li) (hw:uj x):az ae env 118 [.agg [sI .u32 x.mn,sI .u32 x.mx,sB x.cap],sI .u32 most] [] (.aK [.p (.ps (tr most x).length 1 (bt (tr most x))),sI .i64 (yC most x)]) []:=by
 have bw:aR=70368744177664:=rfl
 have w1:=lR hw.1
 have w2:=lR hw.2
 have l1:=gy x.mn
 have l2:=gy x.mx
 rcases Cp most x with h | h
 · refine az.lI (tok:=some 0) (m':=[.tok]) (aa aH (K4 x.mn x.mx x.cap most (yC most x) jU qU) ?_)
   simp only[Jk,aV,aA.ok,ajQ,di,ajp,bw,gH,jA]
   refine⟨sx x most,fun q=> ?_,fun _=>⟨fun q=>⟨pQ w1,by omega,trivial,?_⟩,fun q=>⟨pQ w1,pQ w2,by omega,trivial,?_⟩⟩⟩
   · rw[h] at q;cases q
   · rw[h]
     have hc:x.cap=false:=by simpa using q
     exact zo (by simp[tr,h,hc,bt]) (by simp[tr,h,hc];omega)
   · rw[h]
     have hc:x.cap=true:=by simpa using q
     exact zo (by simp[tr,h,hc,bt]) (by simp[tr,h,hc];omega)
 · have e:tr most x=[]:=by unfold tr;rw[if_neg (by omega)]
   rw[e]
   refine az.jw (m':=[]) (aa aH (K4 x.mn x.mx x.cap most (yC most x) jU qU) ?_)
   simp only[Jk,aV,aA.ok]
   exact⟨sx x most,fun _=>(by first | trivial | rfl),fun q=>by rw[h] at q;cases q⟩
theorem Gu (most:Int) (x:Li) (hw:uj x):az ae env 55 [.agg [sI .u32 x.mn,sI .u32 x.mx,sB x.cap],sI .u32 most] [] (.aK [.p (.ps (tr most x).length 1 (bt (tr most x))),sI .i64 (yC most x)]) []:=by
 have bw:aR=70368744177664:=rfl
 have w1:=lR hw.1
 have w2:=lR hw.2
 have l1:=gy x.mn
 have l2:=gy x.mx
 rcases Cp most x with h | h
 · refine az.lI (tok:=some 0) (m':=[.tok]) (aa aH (Gs x.mn x.mx x.cap most (yC most x) jU qU) ?_)
   simp only[D0,aV,aA.ok,ajQ,di,ajp,bw,gH,jA]
   refine⟨sJ x most,fun q=> ?_,fun _=>⟨fun q=>⟨kP w1,by omega,trivial,?_⟩,fun q=>⟨kP w1,kP w2,by omega,trivial,?_⟩⟩⟩
   · rw[h] at q;cases q
   · rw[h]
     have hc:x.cap=false:=by simpa using q
     exact zo (by simp[tr,h,hc,bt]) (by simp[tr,h,hc];omega)
   · rw[h]
     have hc:x.cap=true:=by simpa using q
     exact zo (by simp[tr,h,hc,bt]) (by simp[tr,h,hc];omega)
 · have e:tr most x=[]:=by unfold tr;rw[if_neg (by omega)]
   rw[e]
   refine az.jw (m':=[]) (aa aH (Gs x.mn x.mx x.cap most (yC most x) jU qU) ?_)
   simp only[D0,aV,aA.ok]
   exact⟨sJ x most,fun _=>(by first | trivial | rfl),fun q=>by rw[h] at q;cases q⟩
theorem Yp (s:ByteArray):bt (ME s)=s.data.toList.map eE:=by
 unfold bt ME
 rw[List.map_map]
 rfl
theorem Wz {s:ByteArray} (hs:s.data.toList.length≤1000000):s.size≤maxLen:=by
 have h1:s.size=s.data.toList.length:=by simp
 unfold maxLen
 omega
theorem D2 (s:ByteArray) (hs:s.data.toList.length≤1000000):az ae env 117 [.p (.sc (.string s))] [] (.aK [.p (.ps (eM s).length 1 (bt (eM s))),sI .i64 (sG s)]) []:=by
 have bw:aR=70368744177664:=rfl
 have l1:=eg (s.data.toList.length:Int)
 have hb:=az.Uh (m:=[.tok]) (args:=[.os (some 0) s.data.toList.length 1 (s.data.toList.map eE)]) (BK s (Wz hs)) ⟨Tv.os (.refl _),trivial⟩
 by_cases D3:jZ s≥0
 · have hE:sG s=4:=by unfold sG;rw[if_neg (by omega),if_pos D3]
   have e:eM s=[]:=by unfold eM;rw[hE];rfl
   rw[e,hE]
   refine az.jw (m':=[]) (aa aH (K5 s (jZ s) 0 0 [] jU qU) ?_)
   simp only[Jl,aV,aA.ok,decide_eq_true_eq,decide_eq_false_iff_not]
   exact⟨fun q=>by omega,fun _=>⟨hb,fun _=>(by first | trivial | rfl),fun q=>absurd D3 q⟩⟩
 · have hE:sG s=0:=by unfold sG;rw[if_neg (by omega),if_neg D3]
   refine az.lI (tok:=some 0) (m':=[.tok]) (aa aH (K5 s (jZ s) 0 0 [] jU qU) ?_)
   simp only[Jl,aV,aA.ok,decide_eq_true_eq,decide_eq_false_iff_not,ajQ,di,ajp,bw,K8,K9]
   refine⟨fun q=>by omega,fun _=>⟨hb,fun q=>absurd q D3,fun _=>⟨pQ (eN _),by omega,?_⟩⟩⟩
   rw[hE]
   exact zo (by unfold eM;rw[if_pos hE,aS,Yp]) (by unfold eM;rw[if_pos hE,dC];simp[ME])
theorem Sx (s:ByteArray) (hs:s.data.toList.length≤1000000):az ae env 105 [.p (.sc (.string s))] [] (.aK [.p (.ps (eM s).length 1 (bt (eM s))),sI .i64 (sG s)]) []:=by
 have bw:aR=70368744177664:=rfl
 have l1:=eg (s.data.toList.length:Int)
 have hb:=az.Uh (m:=[.tok]) (args:=[.os (some 0) s.data.toList.length 1 (s.data.toList.map eE)]) (Co s hs) ⟨Tv.os (.refl _),trivial⟩
 by_cases D3:jZ s≥0
 · have hE:sG s=4:=by unfold sG;rw[if_neg (by omega),if_pos D3]
   have e:eM s=[]:=by unfold eM;rw[hE];rfl
   rw[e,hE]
   refine az.jw (m':=[]) (aa aH (Gt s (jZ s) 0 0 [] jU qU) ?_)
   simp only[D1,aV,aA.ok,decide_eq_true_eq,decide_eq_false_iff_not]
   exact⟨fun q=>by omega,fun _=>⟨hb,fun _=>(by first | trivial | rfl),fun q=>absurd D3 q⟩⟩
 · have hE:sG s=0:=by unfold sG;rw[if_neg (by omega),if_neg D3]
   refine az.lI (tok:=some 0) (m':=[.tok]) (aa aH (Gt s (jZ s) 0 0 [] jU qU) ?_)
   simp only[D1,aV,aA.ok,decide_eq_true_eq,decide_eq_false_iff_not,ajQ,di,ajp,bw,K8,K9]
   refine⟨fun q=>by omega,fun _=>⟨hb,fun q=>absurd q D3,fun _=>⟨kP (eN _),by omega,?_⟩⟩⟩
   rw[hE]
   exact zo (by unfold eM;rw[if_pos hE,aS,Yp]) (by unfold eM;rw[if_pos hE,dC];simp[ME])
theorem zp (s:ByteArray) (hs:s.data.toList.length≤1000000):az ae env 54 [.p (.sc (.string s))] [] (.p (.ps (eM s).length 1 (bt (eM s)))) []:=
 aa aH (Sp s 0 (sG s) (eM s).length (bt (eM s)) jU qU) ⟨Sx s hs,rfl⟩
theorem zq {l:List Ins} (hw:qn l) (hc:cz l≤1000000):az ae env 56 [aL l] [] (.p (.ps (kM l).length 1 (bt (kM l)))) []:=
 aa aH (Sq l (bT dQ l) (kM l).length (bt (kM l))) ⟨Kr hw hc,rfl⟩
def ovF:Nat→Nat→List Int→List Int
 |0,_,zs=>zs
 |r+1,i,zs=>ovF r (i+1) (zs.set i (ajw.wrap (df 8 (zs.getD i 0) ^^^ df 8 90).toNat))
end Go.Proofs.YtncncijedmfpjaaGreatDoor.N
end
