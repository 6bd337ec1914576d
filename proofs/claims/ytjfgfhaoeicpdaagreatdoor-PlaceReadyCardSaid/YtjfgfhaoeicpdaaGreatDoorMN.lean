import Derived.Test.YtjfgfhaoeicpdaaGreatDoorMI
import Derived.Test.YtjfgfhaoeicpdaaGreatDoorMM
import Derived.Lib.DecodeN
import Derived.Test.YtjfgfhaoeicpdaaGreatDoorMH
open Nat renaming zero_add→pj,mul_one→aeX,blt→ar,blt_eq→fi,beq→ae
open ByteArray renaming mk→aeV
open Go.IntKind renaming i64→rn,i32→ae3,u8→ae4
open Go.Proofs.Tryz renaming prog→ab5
open Go.Value renaming int→sd,string→afc
open BitVec renaming ofInt→cf
open List renaming range→ee,getD_eq_getElem?_getD→cb,mem_filter→afd,mem_range→Pl,getElem?_eq_getElem→bm,length_drop→dt,map→abG
open Go.Utf8 renaming decode→afi
open Go.Lib renaming slowN→afj,decodeN→afl,decode_at→afm
open Bool renaming false_eq_true→oE,true_eq_false→afn,and_true→aeU,and_eq_true→ch,not_false→oR
open Int renaming toNat_natCast→aep
open Min renaming min→ad3
open Max renaming max→aeh
noncomputable section
section
set_option linter.unusedSimpArgs false
set_option linter.unusedVariables false
namespace Go.Proofs.YtjfgfhaoeicpdaaGreatDoor.N
open Go Go.Am
def eo:List PV:=iz.map fun z=> .sc (.int .u8 z)
def drC (s:ByteArray) (w:Int) (fn:FuncId) (_:List AV) (m:Mem):Option (AV×Mem):=cond (ae fn 113) (some (.aA [.aj,sI .i64 w],m)) none
def agZ (s:ByteArray):FuncId→Nat→Nat→Option (AV→AV):=cL [(113,6,2,sI .u8 241)]
def ag0 (s:ByteArray):FuncId→Nat→Nat→Option (AV→AV):=cL [(113,6,2,sI .u8 2)]
def ag1 (s:ByteArray):FuncId→Nat→Nat→Option (AV→AV):=cL [(113,6,2,sI .u8 19)]
def ag2 (s:ByteArray):FuncId→Nat→Nat→Option (AV→AV):=cL [(113,6,2,sI .u8 3)]
def ag3 (s:ByteArray):FuncId→Nat→Nat→Option (AV→AV):=cL [(113,6,2,sI .u8 35)]
def ag4 (s:ByteArray):FuncId→Nat→Nat→Option (AV→AV):=cL [(113,6,2,sI .u8 52)]
def ag5 (s:ByteArray):FuncId→Nat→Nat→Option (AV→AV):=cL [(113,6,2,sI .u8 4)]
def ag6 (s:ByteArray):FuncId→Nat→Nat→Option (AV→AV):=cL [(113,6,2,sI .u8 68)]
def blC (s:ByteArray) (i:Nat) (w:Int) (fn:FuncId) (_:List AV) (m:Mem):Option (AV×Mem):=cond (ae fn 103) (some (.aA [.aj,sI .i64 w],m)) none
def YU (s:ByteArray) (w:Int):bD:=aQ (drC s w) av [] [(103,2,3),(103,0,0)] [(103,2,4),(103,3,1)]
def adm:Sc:=(.fork .fin (.lit .fin))
def CW (s:ByteArray) (w:Int):aC:=
 (.test (!s.data.toList==(aeV #[]).data.toList)
 (.must (bp 0 s.data.toList.length&&true)
 (.test (decide ((↑(s.data.toList.getD 0 0).toNat:Int)<128))
 (.must (bp 0 s.data.toList.length&&true)
 (.out (.ret (.aA [sI .i32 (ae3.wrap (↑(s.data.toList.getD 0 0).toNat:Int)),sI .i64 1]) [])))
 (.call ⟨113,[.p (.sc (.string s))],[],.aA [.aj,sI .i64 w],[]⟩
 (.out (.ret (.aA [.aj,sI .i64 w]) [])))))
 (.call ⟨113,[.p (.sc (.string s))],[],.aA [.aj,sI .i64 w],[]⟩
 (.out (.ret (.aA [.aj,sI .i64 w]) []))))
theorem EY (s:ByteArray) (w:Int):aH ab5 env (YU s w) 1000000 103 ([AV.p (PV.sc (afc s))]) ([]) adm=CW s w:=by kernel_rfl
def YV (s:ByteArray):bD:=fy aI av [] [(113,0,0)] [(113,5,1),(113,6,1),(113,6,2),(113,9,1)] (agZ s)
def adn:Sc:= .fin
def Je (s:ByteArray):aC:=
 (.test (decide ((↑s.data.toList.length:Int)<1))
 (.out (.ret (.aA [sI .i32 65533,sI .i64 0]) []))
 (.must (bp 0 s.data.toList.length&&true)
 (.must (bp (↑(s.data.toList.getD 0 0).toNat:Int) 256&&true)
 (.must (isInt ae4 (aB eo (0+(↑(s.data.toList.getD 0 0).toNat:Int).toNat*1))&&true)
 (.need (sI .u8 (az (aB eo (0+(↑(s.data.toList.getD 0 0).toNat:Int).toNat*1)))=sI ae4 241)
 (.must (bp 0 s.data.toList.length&&true)
 (.out (.ret (.aA [sI .i32 (ae3.wrap (↑(cf 32 (ae3.wrap (↑(cf 32 (ae3.wrap (↑(s.data.toList.getD 0 0).toNat:Int)) &&& ~~~cf 32 (-1)).toNat:Int))|||cf 32 65533).toNat:Int)),sI .i64 1]) []))))))))
theorem PO (s:ByteArray):aH ab5 env (YV s) 1000000 113 ([AV.p (PV.sc (afc s))]) ([]) adn=Je s:=by kernel_rfl
def YW (s:ByteArray):bD:=fy aI av [] [(113,0,0),(113,0,2),(113,15,5),(113,0,3)] [(113,5,1),(113,6,1),(113,6,2),(113,14,1)] (ag0 s)
def ado:Sc:=(.fork .fin (.fork .fin (.fork (.lit .fin) .fin)))
def rP (s:ByteArray):aC:=
 (.test (decide ((↑s.data.toList.length:Int)<1))
 (.out (.ret (.aA [sI .i32 65533,sI .i64 0]) []))
 (.must (bp 0 s.data.toList.length&&true)
 (.must (bp (↑(s.data.toList.getD 0 0).toNat:Int) 256&&true)
 (.must (isInt ae4 (aB eo (0+(↑(s.data.toList.getD 0 0).toNat:Int).toNat*1))&&true)
 (.need (sI .u8 (az (aB eo (0+(↑(s.data.toList.getD 0 0).toNat:Int).toNat*1)))=sI ae4 2)
 (.test (decide ((↑s.data.toList.length:Int)<2))
 (.out (.ret (.aA [sI .i32 65533,sI .i64 1]) []))
 (.must (bp 1 s.data.toList.length&&true)
 (.test (decide ((↑(s.data.toList.getD 1 0).toNat:Int)<128))
 (.out (.ret (.aA [sI .i32 65533,sI .i64 1]) []))
 (.test (decide (191<(↑(s.data.toList.getD 1 0).toNat:Int)))
 (.out (.ret (.aA [sI .i32 65533,sI .i64 1]) []))
 (.out (.ret (.aA [sI .i32 (ae3.wrap (↑(cf 32 (ae3.wrap (ae3.wrap (ae4.wrap (↑(cf 8 (↑(s.data.toList.getD 0 0).toNat:Int)&&&cf 8 31).toNat:Int))*64))|||cf 32 (ae3.wrap (ae4.wrap (↑(cf 8 (↑(s.data.toList.getD 1 0).toNat:Int)&&&cf 8 63).toNat:Int)))).toNat:Int)),sI .i64 2]) [])))))))))))
theorem rQ (s:ByteArray):aH ab5 env (YW s) 1000000 113 ([AV.p (PV.sc (afc s))]) ([]) ado=rP s:=by kernel_rfl
def YX (s:ByteArray):bD:=fy aI av [] [(113,0,0),(113,0,2),(113,15,5),(113,0,3),(113,20,3),(113,0,5)] [(113,5,1),(113,6,1),(113,6,2),(113,14,1),(113,19,1)] (ag1 s)
def adp:Sc:=(.fork .fin (.fork .fin (.fork (.lit .fin) (.fork .fin (.fork (.lit .fin) .fin)))))
def dZ:aC:=
 (.out (.ret (.aA [sI .i32 65533,sI .i64 1]) []))
def gu (s:ByteArray) (v lo hi:Nat):aC:=
 (.test (decide ((↑s.data.toList.length:Int)<1))
 (.out (.ret (.aA [sI .i32 65533,sI .i64 0]) []))
 (.must (bp 0 s.data.toList.length&&true)
 (.must (bp (↑(s.data.toList.getD 0 0).toNat:Int) 256&&true)
 (.must (isInt ae4 (aB eo (0+(↑(s.data.toList.getD 0 0).toNat:Int).toNat*1))&&true)
 (.need (sI .u8 (az (aB eo (0+(↑(s.data.toList.getD 0 0).toNat:Int).toNat*1)))=sI ae4 (↑v:Int))
 (.test (decide ((↑s.data.toList.length:Int)<3))
 (dZ)
 (.must (bp 1 s.data.toList.length&&true)
 (.test (decide ((↑(s.data.toList.getD 1 0).toNat:Int)<(↑lo:Int)))
 (dZ)
 (.test (decide ((↑hi:Int)<(↑(s.data.toList.getD 1 0).toNat:Int)))
 (dZ)
 (.must (bp 2 s.data.toList.length&&true)
 (.test (decide ((↑(s.data.toList.getD 2 0).toNat:Int)<128))
 (dZ)
 (.test (decide (191<(↑(s.data.toList.getD 2 0).toNat:Int)))
 (dZ)
 (.out (.ret (.aA [sI .i32 (ae3.wrap (↑(cf 32 (ae3.wrap (↑(cf 32 (ae3.wrap (ae3.wrap (ae4.wrap (↑(cf 8 (↑(s.data.toList.getD 0 0).toNat:Int)&&&cf 8 15).toNat:Int))*4096))|||cf 32 (ae3.wrap (ae3.wrap (ae4.wrap (↑(cf 8 (↑(s.data.toList.getD 1 0).toNat:Int)&&&cf 8 63).toNat:Int))*64))).toNat:Int))|||cf 32 (ae3.wrap (ae4.wrap (↑(cf 8 (↑(s.data.toList.getD 2 0).toNat:Int)&&&cf 8 63).toNat:Int)))).toNat:Int)),sI .i64 3]) []))))))))))))))
theorem PR (s:ByteArray):aH ab5 env (YX s) 1000000 113 ([AV.p (PV.sc (afc s))]) ([]) adp=gu s 19 160 191:=by kernel_rfl
def YY (s:ByteArray):bD:=fy aI av [] [(113,0,0),(113,0,2),(113,15,5),(113,0,3),(113,20,3),(113,0,5)] [(113,5,1),(113,6,1),(113,6,2),(113,14,1),(113,19,1)] (ag2 s)
def adq:Sc:=(.fork .fin (.fork .fin (.fork (.lit .fin) (.fork .fin (.fork (.lit .fin) .fin)))))
theorem PS (s:ByteArray):aH ab5 env (YY s) 1000000 113 ([AV.p (PV.sc (afc s))]) ([]) adq=gu s 3 128 191:=by kernel_rfl
def YZ (s:ByteArray):bD:=fy aI av [] [(113,0,0),(113,0,2),(113,15,5),(113,0,3),(113,20,3),(113,0,5)] [(113,5,1),(113,6,1),(113,6,2),(113,14,1),(113,19,1)] (ag3 s)
def adr:Sc:=(.fork .fin (.fork .fin (.fork (.lit .fin) (.fork .fin (.fork (.lit .fin) .fin)))))
theorem PT (s:ByteArray):aH ab5 env (YZ s) 1000000 113 ([AV.p (PV.sc (afc s))]) ([]) adr=gu s 35 128 159:=by kernel_rfl
def Y0 (s:ByteArray):bD:=fy aI av [] [(113,0,0),(113,0,2),(113,15,5),(113,0,3),(113,20,3),(113,0,5),(113,25,3),(113,0,7)] [(113,5,1),(113,6,1),(113,6,2),(113,14,1),(113,19,1),(113,24,1)] (ag4 s)
def ads:Sc:=(.fork .fin (.fork .fin (.fork (.lit .fin) (.fork .fin (.fork (.lit .fin) (.fork .fin (.fork (.lit .fin) .fin)))))))
def cN:aC:=
 (.out (.ret (.aA [sI .i32 65533,sI .i64 1]) []))
def eW (s:ByteArray) (v lo hi:Nat):aC:=
 (.test (decide ((↑s.data.toList.length:Int)<1))
 (.out (.ret (.aA [sI .i32 65533,sI .i64 0]) []))
 (.must (bp 0 s.data.toList.length&&true)
 (.must (bp (↑(s.data.toList.getD 0 0).toNat:Int) 256&&true)
 (.must (isInt ae4 (aB eo (0+(↑(s.data.toList.getD 0 0).toNat:Int).toNat*1))&&true)
 (.need (sI .u8 (az (aB eo (0+(↑(s.data.toList.getD 0 0).toNat:Int).toNat*1)))=sI ae4 (↑v:Int))
 (.test (decide ((↑s.data.toList.length:Int)<4))
 (cN)
 (.must (bp 1 s.data.toList.length&&true)
 (.test (decide ((↑(s.data.toList.getD 1 0).toNat:Int)<(↑lo:Int)))
 (cN)
 (.test (decide ((↑hi:Int)<(↑(s.data.toList.getD 1 0).toNat:Int)))
 (cN)
 (.must (bp 2 s.data.toList.length&&true)
 (.test (decide ((↑(s.data.toList.getD 2 0).toNat:Int)<128))
 (cN)
 (.test (decide (191<(↑(s.data.toList.getD 2 0).toNat:Int)))
 (cN)
 (.must (bp 3 s.data.toList.length&&true)
 (.test (decide ((↑(s.data.toList.getD 3 0).toNat:Int)<128))
 (cN)
 (.test (decide (191<(↑(s.data.toList.getD 3 0).toNat:Int)))
 (cN)
 (.out (.ret (.aA [sI .i32 (ae3.wrap (↑(cf 32 (ae3.wrap (↑(cf 32 (ae3.wrap (↑(cf 32 (ae3.wrap (ae3.wrap (ae4.wrap (↑(cf 8 (↑(s.data.toList.getD 0 0).toNat:Int)&&&cf 8 7).toNat:Int))*262144))|||cf 32 (ae3.wrap (ae3.wrap (ae4.wrap (↑(cf 8 (↑(s.data.toList.getD 1 0).toNat:Int)&&&cf 8 63).toNat:Int))*4096))).toNat:Int))|||cf 32 (ae3.wrap (ae3.wrap (ae4.wrap (↑(cf 8 (↑(s.data.toList.getD 2 0).toNat:Int)&&&cf 8 63).toNat:Int))*64))).toNat:Int))|||cf 32 (ae3.wrap (ae4.wrap (↑(cf 8 (↑(s.data.toList.getD 3 0).toNat:Int)&&&cf 8 63).toNat:Int)))).toNat:Int)),sI .i64 4]) [])))))))))))))))))
theorem PU (s:ByteArray):aH ab5 env (Y0 s) 1000000 113 ([AV.p (PV.sc (afc s))]) ([]) ads=eW s 52 144 191:=by kernel_rfl
def Y1 (s:ByteArray):bD:=fy aI av [] [(113,0,0),(113,0,2),(113,15,5),(113,0,3),(113,20,3),(113,0,5),(113,25,3),(113,0,7)] [(113,5,1),(113,6,1),(113,6,2),(113,14,1),(113,19,1),(113,24,1)] (ag5 s)
def adt:Sc:=(.fork .fin (.fork .fin (.fork (.lit .fin) (.fork .fin (.fork (.lit .fin) (.fork .fin (.fork (.lit .fin) .fin)))))))
theorem PW (s:ByteArray):aH ab5 env (Y1 s) 1000000 113 ([AV.p (PV.sc (afc s))]) ([]) adt=eW s 4 128 191:=by kernel_rfl
def Y2 (s:ByteArray):bD:=fy aI av [] [(113,0,0),(113,0,2),(113,15,5),(113,0,3),(113,20,3),(113,0,5),(113,25,3),(113,0,7)] [(113,5,1),(113,6,1),(113,6,2),(113,14,1),(113,19,1),(113,24,1)] (ag6 s)
def adu:Sc:=(.fork .fin (.fork .fin (.fork (.lit .fin) (.fork .fin (.fork (.lit .fin) (.fork .fin (.fork (.lit .fin) .fin)))))))
theorem PX (s:ByteArray):aH ab5 env (Y2 s) 1000000 113 ([AV.p (PV.sc (afc s))]) ([]) adu=eW s 68 128 143:=by kernel_rfl
def Y3:bD:=aQ aI av [(82,0)] [] [(82,2,1)]
def adv:Sc:= .fin
def Jf (n:Nat) (l:List PV):aC:=
 (.must (l.all isByte&&true)
 (.at (ak ab5 env 82 0 [.p (.sc (.string (aeV (abG Am.byteOf l).toArray))),.mp 0 0] ([.ob (aG.iter (aeV (abG Am.byteOf l).toArray) 0) []]) 0 28)))
theorem PY (n:Nat) (l:List PV):aH ab5 env Y3 1000000 82 ([AV.p (PV.ps n 1 l)]) ([]) adv=Jf n l:=by kernel_rfl
def Y4 (s:ByteArray) (i:Nat) (w:Int):bD:=aQ (blC s i w) av [(82,0)] [(82,0,2),(82,0,3)] [(82,7,2)]
def adw:Sc:= .fin
def Jg (s:ByteArray) (i:Nat) (w:Int):aC:=
 (.test ((↑(afi s i).fst:Int) != 65533)
 (.at (ak ab5 env 82 0 [.p (.sc (.string s)),.mp 0 0] ([.ob (aG.iter s (i+(afi s i).snd)) []]) 0 28))
 (.must ((aK i).ble s.data.toList.length&&s.data.toList.length.ble s.data.toList.length&&true)
 (.call ⟨103,[.p (.sc (.string (s.extract (aK i) s.data.toList.length)))],[],.aA [.aj,sI .i64 w],[]⟩
 (.test (w==1)
 (.out (.ret (sI .i64 (↑i:Int)) []))
 (.at (ak ab5 env 82 0 [.p (.sc (.string s)),.mp 0 0] ([.ob (aG.iter s (i+(afi s i).snd)) []]) 0 28))))))
theorem PZ (s:ByteArray) (i:Nat) (w:Int):grow ab5 env (Y4 s i w) 1000000 true (ak ab5 env 82 0 ([AV.p (PV.sc (afc s)),AV.mp 0 0]) ([aU.ob (aG.Sr s i true) []]) 0 28) adw atEnd=Jg s i w:=by kernel_rfl
def Y5 (s:ByteArray) (i:Nat) (w:Int):bD:=aQ (blC s i w) av [(82,0)] [] []
def adx:Sc:= .fin
def Jh (s:ByteArray) (i:Nat) (w:Int):aC:=
 (.out (.ret (sI .i64 (-1)) []))
theorem EZ (s:ByteArray) (i:Nat) (w:Int):grow ab5 env (Y5 s i w) 1000000 true (ak ab5 env 82 0 ([AV.p (PV.sc (afc s)),AV.mp 0 0]) ([aU.ob (aG.Sr s i false) []]) 0 28) adx atEnd=Jh s i w:=by kernel_rfl
theorem dM {f:FuncId} {args:List AV} {r w:Int} (h:an ab5 env f args [] (.aA [sI .i32 r,sI .i64 w]) []):an ab5 env f args [] (.aA [.aj,sI .i64 w]) []:=
 h.weak fun g wd cv q=>by
   cases q with
   |aA _ cs hl hc=>
    have hv:cA g wd [sI .i32 r,sI .i64 w] cs.toList:=bH.dF hl hc
    refine VA.mR.2 ?_
    generalize cs.toList=vs at hv
    match vs,hv with
    |[u,t],hv=>
     obtain⟨_,h2,_⟩:=hv
     cases h2 with
     |p _ _ h2=>cases h2 with
      |sc=>exact⟨.aj _,.p _ _ (.sc _),trivial⟩
theorem fH {b:Nat} (h:b<256):eo.getD b .bK = .sc (.int .u8 (iz.getD b 0)):=by
 have hl:iz.length=256:=by decide +kernel
 rw[eo,cb,List.getElem?_map,bm (by omega),cb,bm (by omega)]
 rfl
section
variable (s:ByteArray)
abbrev dJ (j:Nat):Nat:=(s.data.toList.getD j 0).toNat
def ke (sz lo hi:Nat):Nat×Nat:=afj s.data.toList.length (dJ s 0) (dJ s 1) (dJ s 2) (dJ s 3) sz lo hi
theorem tF (j:Nat):dJ s j<256:=(s.data.toList.getD j 0).toNat_lt
theorem Y6 (b:Nat) (h:128≤b∧b<194∨245≤b∧b<256):eo.getD b .bK = .sc (.int .u8 241):=by
 have hb:b<256:=by omega
 have h:b∈(ee 256).filter (fun b=>decide (128≤b∧b<194∨245≤b∧b<256)):=afd.2 ⟨Pl.2 (by omega),decide_eq_true h⟩
 have hall : ∀b∈(ee 256).filter (fun b=>decide (128≤b∧b<194∨245≤b∧b<256)),iz.getD b 0=241:=by decide +kernel
 rw[fH hb,hall b h]
theorem P0 (h0:0<s.data.toList.length) (hb:128≤dJ s 0∧dJ s 0<194∨245≤dJ s 0∧dJ s 0<256):an ab5 env 113 [.p (.sc (.string s))] [] (.aA [.aj,sI .i64 1]) []:=by
 have firstAt:eo.getD (0+(s.data.toList.getD 0 0).toNat*1) .bK = .sc (.int .u8 241):=by rw[pj,aeX];exact Y6 (dJ s 0) hb
 have hn0:decide ((s.data.toList.length:Int)<1)=false:=decide_eq_false (by omega)
 have hin : ∀j:Nat,j<s.data.toList.length→bp (j:Int) s.data.toList.length=true:=fun j h=>by simp only[bp,ch,decide_eq_true_eq];omega
 have j7:bp 0 s.data.toList.length=true:=hin 0 h0
 have fV:bp (dJ s 0:Int) 256=true:=by simp only[bp,ch,decide_eq_true_eq];omega
 refine dM (r:=(ae3.wrap (↑(cf 32 (ae3.wrap (↑(cf 32 (ae3.wrap (↑(s.data.toList.getD 0 0).toNat:Int)) &&& ~~~cf 32 (-1)).toNat:Int))|||cf 32 65533).toNat:Int))) (af aM (PO s) ?_)
 simp only[Je,bN,aC.ok,hn0,j7,fV,aep,firstAt,isInt,az,aeU,oE,afn,false_implies,true_implies,true_and,and_true]
 first | rfl | exact⟨rfl,rfl⟩ | exact⟨rfl,rfl,rfl⟩
theorem Y7 (b:Nat) (h:194≤b∧b<224):eo.getD b .bK = .sc (.int .u8 2):=by
 have hb:b<256:=by omega
 have h:b∈(ee 256).filter (fun b=>decide (194≤b∧b<224)):=afd.2 ⟨Pl.2 (by omega),decide_eq_true h⟩
 have hall : ∀b∈(ee 256).filter (fun b=>decide (194≤b∧b<224)),iz.getD b 0=2:=by decide +kernel
 rw[fH hb,hall b h]
theorem P1 (h0:0<s.data.toList.length) (hb:194≤dJ s 0∧dJ s 0<224):an ab5 env 113 [.p (.sc (.string s))] [] (.aA [.aj,sI .i64 ((ke s 2 128 191).2:Nat)]) []:=by
 have firstAt:eo.getD (0+(s.data.toList.getD 0 0).toNat*1) .bK = .sc (.int .u8 2):=by rw[pj,aeX];exact Y7 (dJ s 0) hb
 have hn0:decide ((s.data.toList.length:Int)<1)=false:=decide_eq_false (by omega)
 have hin : ∀j:Nat,j<s.data.toList.length→bp (j:Int) s.data.toList.length=true:=fun j h=>by simp only[bp,ch,decide_eq_true_eq];omega
 have j7:bp 0 s.data.toList.length=true:=hin 0 h0
 have fV:bp (dJ s 0:Int) 256=true:=by simp only[bp,ch,decide_eq_true_eq];omega
 by_cases q0:s.data.toList.length<2
 · have e0:decide ((s.data.toList.length:Int)<2)=true:=decide_eq_true (by omega)
   have hs:ke s 2 128 191=(65533,1):=by unfold ke afj;rw[if_pos q0]
   rw[hs]
   refine dM (r:=65533) (af aM (rQ s) ?_)
   simp only[rP,bN,aC.ok,hn0,j7,fV,aep,firstAt,isInt,az,aeU,oE,afn,false_implies,true_implies,true_and,and_true,e0]
   first | rfl | exact⟨rfl,rfl⟩ | exact⟨rfl,rfl,rfl⟩
 have e0:decide ((s.data.toList.length:Int)<2)=false:=decide_eq_false (by omega)
 have hi1:bp 1 s.data.toList.length=true:=hin 1 (by omega)
 by_cases q1:dJ s 1<128
 · have e1:decide ((dJ s 1:Int)<128)=true:=decide_eq_true (by omega)
   have hs:ke s 2 128 191=(65533,1):=by unfold ke afj;rw[if_neg q0,if_pos (.inl q1)]
   rw[hs]
   refine dM (r:=65533) (af aM (rQ s) ?_)
   simp only[rP,bN,aC.ok,hn0,j7,fV,aep,firstAt,isInt,az,aeU,oE,afn,false_implies,true_implies,true_and,and_true,e0,e1,hi1]
   first | rfl | exact⟨rfl,rfl⟩ | exact⟨rfl,rfl,rfl⟩
 have e1:decide ((dJ s 1:Int)<128)=false:=decide_eq_false (by omega)
 by_cases q2:191<dJ s 1
 · have e2:decide (191<(dJ s 1:Int))=true:=decide_eq_true (by omega)
   have hs:ke s 2 128 191=(65533,1):=by unfold ke afj;rw[if_neg q0,if_pos (.inr q2)]
   rw[hs]
   refine dM (r:=65533) (af aM (rQ s) ?_)
   simp only[rP,bN,aC.ok,hn0,j7,fV,aep,firstAt,isInt,az,aeU,oE,afn,false_implies,true_implies,true_and,and_true,e0,e1,e2,hi1]
   first | rfl | exact⟨rfl,rfl⟩ | exact⟨rfl,rfl,rfl⟩
 have e2:decide (191<(dJ s 1:Int))=false:=decide_eq_false (by omega)
 have hs:ke s 2 128 191=(dJ s 0%32*64+dJ s 1%64,2):=by unfold ke afj;rw[if_neg q0,if_neg (not_or.2 ⟨q1,q2⟩),if_pos (by decide)]
 rw[hs]
 refine dM (r:=(ae3.wrap (↑(cf 32 (ae3.wrap (ae3.wrap (ae4.wrap (↑(cf 8 (↑(s.data.toList.getD 0 0).toNat:Int)&&&cf 8 31).toNat:Int))*64))|||cf 32 (ae3.wrap (ae4.wrap (↑(cf 8 (↑(s.data.toList.getD 1 0).toNat:Int)&&&cf 8 63).toNat:Int)))).toNat:Int))) (af aM (rQ s) ?_)
 simp only[rP,bN,aC.ok,hn0,j7,fV,aep,firstAt,isInt,az,aeU,oE,afn,false_implies,true_implies,true_and,and_true,e0,e1,e2,hi1]
 first | rfl | exact⟨rfl,rfl⟩ | exact⟨rfl,rfl,rfl⟩
theorem tG {o:bD} {sc:Sc} {v lo hi:Nat} (ht:aH ab5 env o 1000000 113 ([AV.p (PV.sc (afc s))]) ([]) sc=gu s v lo hi) (h0:0<s.data.toList.length) (firstAt:eo.getD (0+(s.data.toList.getD 0 0).toNat*1) .bK = .sc (.int .u8 (v:Nat))):an ab5 env 113 [.p (.sc (.string s))] [] (.aA [.aj,sI .i64 ((ke s 3 lo hi).2:Nat)]) []:=by
 have vN:=tF s 0
 have hn0:decide ((s.data.toList.length:Int)<1)=false:=decide_eq_false (by omega)
 have hin : ∀j:Nat,j<s.data.toList.length→bp (j:Int) s.data.toList.length=true:=fun j h=>by simp only[bp,ch,decide_eq_true_eq];omega
 have j7:bp 0 s.data.toList.length=true:=hin 0 h0
 have fV:bp (dJ s 0:Int) 256=true:=by simp only[bp,ch,decide_eq_true_eq];omega
 by_cases q0:s.data.toList.length<3
 · have e0:decide ((s.data.toList.length:Int)<3)=true:=decide_eq_true (by omega)
   have hs:ke s 3 lo hi=(65533,1):=by unfold ke afj;rw[if_pos q0]
   rw[hs]
   refine dM (r:=65533) (af aM (ht) ?_)
   simp only[gu,dZ,bN,aC.ok,hn0,j7,fV,aep,firstAt,isInt,az,aeU,oE,afn,false_implies,true_implies,true_and,and_true,e0]
   first | rfl | exact⟨rfl,rfl⟩ | exact⟨rfl,rfl,rfl⟩
 have e0:decide ((s.data.toList.length:Int)<3)=false:=decide_eq_false (by omega)
 have hi1:bp 1 s.data.toList.length=true:=hin 1 (by omega)
 by_cases q1:dJ s 1<lo
 · have e1:decide ((dJ s 1:Int)<(lo:Int))=true:=decide_eq_true (by omega)
   have hs:ke s 3 lo hi=(65533,1):=by unfold ke afj;rw[if_neg q0,if_pos (.inl q1)]
   rw[hs]
   refine dM (r:=65533) (af aM (ht) ?_)
   simp only[gu,dZ,bN,aC.ok,hn0,j7,fV,aep,firstAt,isInt,az,aeU,oE,afn,false_implies,true_implies,true_and,and_true,e0,e1,hi1]
   first | rfl | exact⟨rfl,rfl⟩ | exact⟨rfl,rfl,rfl⟩
 have e1:decide ((dJ s 1:Int)<(lo:Int))=false:=decide_eq_false (by omega)
 by_cases q2:hi<dJ s 1
 · have e2:decide ((hi:Int)<(dJ s 1:Int))=true:=decide_eq_true (by omega)
   have hs:ke s 3 lo hi=(65533,1):=by unfold ke afj;rw[if_neg q0,if_pos (.inr q2)]
   rw[hs]
   refine dM (r:=65533) (af aM (ht) ?_)
   simp only[gu,dZ,bN,aC.ok,hn0,j7,fV,aep,firstAt,isInt,az,aeU,oE,afn,false_implies,true_implies,true_and,and_true,e0,e1,e2,hi1]
   first | rfl | exact⟨rfl,rfl⟩ | exact⟨rfl,rfl,rfl⟩
 have e2:decide ((hi:Int)<(dJ s 1:Int))=false:=decide_eq_false (by omega)
 have hi2:bp 2 s.data.toList.length=true:=hin 2 (by omega)
 by_cases q3:dJ s 2<128
 · have e3:decide ((dJ s 2:Int)<128)=true:=decide_eq_true (by omega)
   have hs:ke s 3 lo hi=(65533,1):=by unfold ke afj;rw[if_neg q0,if_neg (not_or.2 ⟨q1,q2⟩),if_neg (by decide),if_pos (.inl q3)]
   rw[hs]
   refine dM (r:=65533) (af aM (ht) ?_)
   simp only[gu,dZ,bN,aC.ok,hn0,j7,fV,aep,firstAt,isInt,az,aeU,oE,afn,false_implies,true_implies,true_and,and_true,e0,e1,e2,e3,hi1,hi2]
   first | rfl | exact⟨rfl,rfl⟩ | exact⟨rfl,rfl,rfl⟩
 have e3:decide ((dJ s 2:Int)<128)=false:=decide_eq_false (by omega)
 by_cases q4:191<dJ s 2
 · have e4:decide (191<(dJ s 2:Int))=true:=decide_eq_true (by omega)
   have hs:ke s 3 lo hi=(65533,1):=by unfold ke afj;rw[if_neg q0,if_neg (not_or.2 ⟨q1,q2⟩),if_neg (by decide),if_pos (.inr q4)]
   rw[hs]
   refine dM (r:=65533) (af aM (ht) ?_)
   simp only[gu,dZ,bN,aC.ok,hn0,j7,fV,aep,firstAt,isInt,az,aeU,oE,afn,false_implies,true_implies,true_and,and_true,e0,e1,e2,e3,e4,hi1,hi2]
   first | rfl | exact⟨rfl,rfl⟩ | exact⟨rfl,rfl,rfl⟩
 have e4:decide (191<(dJ s 2:Int))=false:=decide_eq_false (by omega)
 have hs:ke s 3 lo hi=(dJ s 0%16*4096+dJ s 1%64*64+dJ s 2%64,3):=by unfold ke afj;rw[if_neg q0,if_neg (not_or.2 ⟨q1,q2⟩),if_neg (by decide),if_neg (not_or.2 ⟨q3,q4⟩),if_pos (by decide)]
 rw[hs]
 refine dM (r:=(ae3.wrap (↑(cf 32 (ae3.wrap (↑(cf 32 (ae3.wrap (ae3.wrap (ae4.wrap (↑(cf 8 (↑(s.data.toList.getD 0 0).toNat:Int)&&&cf 8 15).toNat:Int))*4096))|||cf 32 (ae3.wrap (ae3.wrap (ae4.wrap (↑(cf 8 (↑(s.data.toList.getD 1 0).toNat:Int)&&&cf 8 63).toNat:Int))*64))).toNat:Int))|||cf 32 (ae3.wrap (ae4.wrap (↑(cf 8 (↑(s.data.toList.getD 2 0).toNat:Int)&&&cf 8 63).toNat:Int)))).toNat:Int))) (af aM (ht) ?_)
 simp only[gu,dZ,bN,aC.ok,hn0,j7,fV,aep,firstAt,isInt,az,aeU,oE,afn,false_implies,true_implies,true_and,and_true,e0,e1,e2,e3,e4,hi1,hi2]
 first | rfl | exact⟨rfl,rfl⟩ | exact⟨rfl,rfl,rfl⟩
theorem Y8 (b:Nat) (h:b=224):eo.getD b .bK = .sc (.int .u8 19):=by
 have hb:b<256:=by omega
 have h:b∈(ee 256).filter (fun b=>decide (b=224)):=afd.2 ⟨Pl.2 (by omega),decide_eq_true h⟩
 have hall : ∀b∈(ee 256).filter (fun b=>decide (b=224)),iz.getD b 0=19:=by decide +kernel
 rw[fH hb,hall b h]
theorem P2 (h0:0<s.data.toList.length) (hb:dJ s 0=224):an ab5 env 113 [.p (.sc (.string s))] [] (.aA [.aj,sI .i64 ((ke s 3 160 191).2:Nat)]) []:=
 tG s (PR s) h0 (by rw[pj,aeX];exact Y8 (dJ s 0) hb)
theorem Y9 (b:Nat) (h:225≤b∧b<237∨238≤b∧b<240):eo.getD b .bK = .sc (.int .u8 3):=by
 have hb:b<256:=by omega
 have h:b∈(ee 256).filter (fun b=>decide (225≤b∧b<237∨238≤b∧b<240)):=afd.2 ⟨Pl.2 (by omega),decide_eq_true h⟩
 have hall : ∀b∈(ee 256).filter (fun b=>decide (225≤b∧b<237∨238≤b∧b<240)),iz.getD b 0=3:=by decide +kernel
 rw[fH hb,hall b h]
theorem P3 (h0:0<s.data.toList.length) (hb:225≤dJ s 0∧dJ s 0<237∨238≤dJ s 0∧dJ s 0<240):an ab5 env 113 [.p (.sc (.string s))] [] (.aA [.aj,sI .i64 ((ke s 3 128 191).2:Nat)]) []:=
 tG s (PS s) h0 (by rw[pj,aeX];exact Y9 (dJ s 0) hb)
theorem Za (b:Nat) (h:b=237):eo.getD b .bK = .sc (.int .u8 35):=by
 have hb:b<256:=by omega
 have h:b∈(ee 256).filter (fun b=>decide (b=237)):=afd.2 ⟨Pl.2 (by omega),decide_eq_true h⟩
 have hall : ∀b∈(ee 256).filter (fun b=>decide (b=237)),iz.getD b 0=35:=by decide +kernel
 rw[fH hb,hall b h]
theorem P4 (h0:0<s.data.toList.length) (hb:dJ s 0=237):an ab5 env 113 [.p (.sc (.string s))] [] (.aA [.aj,sI .i64 ((ke s 3 128 159).2:Nat)]) []:=
 tG s (PT s) h0 (by rw[pj,aeX];exact Za (dJ s 0) hb)
theorem tH {o:bD} {sc:Sc} {v lo hi:Nat} (ht:aH ab5 env o 1000000 113 ([AV.p (PV.sc (afc s))]) ([]) sc=eW s v lo hi) (h0:0<s.data.toList.length) (firstAt:eo.getD (0+(s.data.toList.getD 0 0).toNat*1) .bK = .sc (.int .u8 (v:Nat))):an ab5 env 113 [.p (.sc (.string s))] [] (.aA [.aj,sI .i64 ((ke s 4 lo hi).2:Nat)]) []:=by
 have vN:=tF s 0
 have hn0:decide ((s.data.toList.length:Int)<1)=false:=decide_eq_false (by omega)
 have hin : ∀j:Nat,j<s.data.toList.length→bp (j:Int) s.data.toList.length=true:=fun j h=>by simp only[bp,ch,decide_eq_true_eq];omega
 have j7:bp 0 s.data.toList.length=true:=hin 0 h0
 have fV:bp (dJ s 0:Int) 256=true:=by simp only[bp,ch,decide_eq_true_eq];omega
 by_cases q0:s.data.toList.length<4
 · have e0:decide ((s.data.toList.length:Int)<4)=true:=decide_eq_true (by omega)
   have hs:ke s 4 lo hi=(65533,1):=by unfold ke afj;rw[if_pos q0]
   rw[hs]
   refine dM (r:=65533) (af aM (ht) ?_)
   simp only[eW,cN,bN,aC.ok,hn0,j7,fV,aep,firstAt,isInt,az,aeU,oE,afn,false_implies,true_implies,true_and,and_true,e0]
   first | rfl | exact⟨rfl,rfl⟩ | exact⟨rfl,rfl,rfl⟩
 have e0:decide ((s.data.toList.length:Int)<4)=false:=decide_eq_false (by omega)
 have hi1:bp 1 s.data.toList.length=true:=hin 1 (by omega)
 by_cases q1:dJ s 1<lo
 · have e1:decide ((dJ s 1:Int)<(lo:Int))=true:=decide_eq_true (by omega)
   have hs:ke s 4 lo hi=(65533,1):=by unfold ke afj;rw[if_neg q0,if_pos (.inl q1)]
   rw[hs]
   refine dM (r:=65533) (af aM (ht) ?_)
   simp only[eW,cN,bN,aC.ok,hn0,j7,fV,aep,firstAt,isInt,az,aeU,oE,afn,false_implies,true_implies,true_and,and_true,e0,e1,hi1]
   first | rfl | exact⟨rfl,rfl⟩ | exact⟨rfl,rfl,rfl⟩
 have e1:decide ((dJ s 1:Int)<(lo:Int))=false:=decide_eq_false (by omega)
 by_cases q2:hi<dJ s 1
 · have e2:decide ((hi:Int)<(dJ s 1:Int))=true:=decide_eq_true (by omega)
   have hs:ke s 4 lo hi=(65533,1):=by unfold ke afj;rw[if_neg q0,if_pos (.inr q2)]
   rw[hs]
   refine dM (r:=65533) (af aM (ht) ?_)
   simp only[eW,cN,bN,aC.ok,hn0,j7,fV,aep,firstAt,isInt,az,aeU,oE,afn,false_implies,true_implies,true_and,and_true,e0,e1,e2,hi1]
   first | rfl | exact⟨rfl,rfl⟩ | exact⟨rfl,rfl,rfl⟩
 have e2:decide ((hi:Int)<(dJ s 1:Int))=false:=decide_eq_false (by omega)
 have hi2:bp 2 s.data.toList.length=true:=hin 2 (by omega)
 by_cases q3:dJ s 2<128
 · have e3:decide ((dJ s 2:Int)<128)=true:=decide_eq_true (by omega)
   have hs:ke s 4 lo hi=(65533,1):=by unfold ke afj;rw[if_neg q0,if_neg (not_or.2 ⟨q1,q2⟩),if_neg (by decide),if_pos (.inl q3)]
   rw[hs]
   refine dM (r:=65533) (af aM (ht) ?_)
   simp only[eW,cN,bN,aC.ok,hn0,j7,fV,aep,firstAt,isInt,az,aeU,oE,afn,false_implies,true_implies,true_and,and_true,e0,e1,e2,e3,hi1,hi2]
   first | rfl | exact⟨rfl,rfl⟩ | exact⟨rfl,rfl,rfl⟩
 have e3:decide ((dJ s 2:Int)<128)=false:=decide_eq_false (by omega)
 by_cases q4:191<dJ s 2
 · have e4:decide (191<(dJ s 2:Int))=true:=decide_eq_true (by omega)
   have hs:ke s 4 lo hi=(65533,1):=by unfold ke afj;rw[if_neg q0,if_neg (not_or.2 ⟨q1,q2⟩),if_neg (by decide),if_pos (.inr q4)]
   rw[hs]
   refine dM (r:=65533) (af aM (ht) ?_)
   simp only[eW,cN,bN,aC.ok,hn0,j7,fV,aep,firstAt,isInt,az,aeU,oE,afn,false_implies,true_implies,true_and,and_true,e0,e1,e2,e3,e4,hi1,hi2]
   first | rfl | exact⟨rfl,rfl⟩ | exact⟨rfl,rfl,rfl⟩
 have e4:decide (191<(dJ s 2:Int))=false:=decide_eq_false (by omega)
 have hi3:bp 3 s.data.toList.length=true:=hin 3 (by omega)
 by_cases q5:dJ s 3<128
 · have e5:decide ((dJ s 3:Int)<128)=true:=decide_eq_true (by omega)
   have hs:ke s 4 lo hi=(65533,1):=by unfold ke afj;rw[if_neg q0,if_neg (not_or.2 ⟨q1,q2⟩),if_neg (by decide),if_neg (not_or.2 ⟨q3,q4⟩),if_neg (by decide),if_pos (.inl q5)]
   rw[hs]
   refine dM (r:=65533) (af aM (ht) ?_)
   simp only[eW,cN,bN,aC.ok,hn0,j7,fV,aep,firstAt,isInt,az,aeU,oE,afn,false_implies,true_implies,true_and,and_true,e0,e1,e2,e3,e4,e5,hi1,hi2,hi3]
   first | rfl | exact⟨rfl,rfl⟩ | exact⟨rfl,rfl,rfl⟩
 have e5:decide ((dJ s 3:Int)<128)=false:=decide_eq_false (by omega)
 by_cases q6:191<dJ s 3
 · have e6:decide (191<(dJ s 3:Int))=true:=decide_eq_true (by omega)
   have hs:ke s 4 lo hi=(65533,1):=by unfold ke afj;rw[if_neg q0,if_neg (not_or.2 ⟨q1,q2⟩),if_neg (by decide),if_neg (not_or.2 ⟨q3,q4⟩),if_neg (by decide),if_pos (.inr q6)]
   rw[hs]
   refine dM (r:=65533) (af aM (ht) ?_)
   simp only[eW,cN,bN,aC.ok,hn0,j7,fV,aep,firstAt,isInt,az,aeU,oE,afn,false_implies,true_implies,true_and,and_true,e0,e1,e2,e3,e4,e5,e6,hi1,hi2,hi3]
   first | rfl | exact⟨rfl,rfl⟩ | exact⟨rfl,rfl,rfl⟩
 have e6:decide (191<(dJ s 3:Int))=false:=decide_eq_false (by omega)
 have hs:ke s 4 lo hi=(dJ s 0%8*262144+dJ s 1%64*4096+dJ s 2%64*64+dJ s 3%64,4):=by unfold ke afj;rw[if_neg q0,if_neg (not_or.2 ⟨q1,q2⟩),if_neg (by decide),if_neg (not_or.2 ⟨q3,q4⟩),if_neg (by decide),if_neg (not_or.2 ⟨q5,q6⟩)]
 rw[hs]
 refine dM (r:=(ae3.wrap (↑(cf 32 (ae3.wrap (↑(cf 32 (ae3.wrap (↑(cf 32 (ae3.wrap (ae3.wrap (ae4.wrap (↑(cf 8 (↑(s.data.toList.getD 0 0).toNat:Int)&&&cf 8 7).toNat:Int))*262144))|||cf 32 (ae3.wrap (ae3.wrap (ae4.wrap (↑(cf 8 (↑(s.data.toList.getD 1 0).toNat:Int)&&&cf 8 63).toNat:Int))*4096))).toNat:Int))|||cf 32 (ae3.wrap (ae3.wrap (ae4.wrap (↑(cf 8 (↑(s.data.toList.getD 2 0).toNat:Int)&&&cf 8 63).toNat:Int))*64))).toNat:Int))|||cf 32 (ae3.wrap (ae4.wrap (↑(cf 8 (↑(s.data.toList.getD 3 0).toNat:Int)&&&cf 8 63).toNat:Int)))).toNat:Int))) (af aM (ht) ?_)
 simp only[eW,cN,bN,aC.ok,hn0,j7,fV,aep,firstAt,isInt,az,aeU,oE,afn,false_implies,true_implies,true_and,and_true,e0,e1,e2,e3,e4,e5,e6,hi1,hi2,hi3]
 first | rfl | exact⟨rfl,rfl⟩ | exact⟨rfl,rfl,rfl⟩
theorem Zb (b:Nat) (h:b=240):eo.getD b .bK = .sc (.int .u8 52):=by
 have hb:b<256:=by omega
 have h:b∈(ee 256).filter (fun b=>decide (b=240)):=afd.2 ⟨Pl.2 (by omega),decide_eq_true h⟩
 have hall : ∀b∈(ee 256).filter (fun b=>decide (b=240)),iz.getD b 0=52:=by decide +kernel
 rw[fH hb,hall b h]
theorem P5 (h0:0<s.data.toList.length) (hb:dJ s 0=240):an ab5 env 113 [.p (.sc (.string s))] [] (.aA [.aj,sI .i64 ((ke s 4 144 191).2:Nat)]) []:=
 tH s (PU s) h0 (by rw[pj,aeX];exact Zb (dJ s 0) hb)
theorem Zc (b:Nat) (h:241≤b∧b<244):eo.getD b .bK = .sc (.int .u8 4):=by
 have hb:b<256:=by omega
 have h:b∈(ee 256).filter (fun b=>decide (241≤b∧b<244)):=afd.2 ⟨Pl.2 (by omega),decide_eq_true h⟩
 have hall : ∀b∈(ee 256).filter (fun b=>decide (241≤b∧b<244)),iz.getD b 0=4:=by decide +kernel
 rw[fH hb,hall b h]
theorem P6 (h0:0<s.data.toList.length) (hb:241≤dJ s 0∧dJ s 0<244):an ab5 env 113 [.p (.sc (.string s))] [] (.aA [.aj,sI .i64 ((ke s 4 128 191).2:Nat)]) []:=
 tH s (PW s) h0 (by rw[pj,aeX];exact Zc (dJ s 0) hb)
theorem Zd (b:Nat) (h:b=244):eo.getD b .bK = .sc (.int .u8 68):=by
 have hb:b<256:=by omega
 have h:b∈(ee 256).filter (fun b=>decide (b=244)):=afd.2 ⟨Pl.2 (by omega),decide_eq_true h⟩
 have hall : ∀b∈(ee 256).filter (fun b=>decide (b=244)),iz.getD b 0=68:=by decide +kernel
 rw[fH hb,hall b h]
theorem P7 (h0:0<s.data.toList.length) (hb:dJ s 0=244):an ab5 env 113 [.p (.sc (.string s))] [] (.aA [.aj,sI .i64 ((ke s 4 128 143).2:Nat)]) []:=
 tH s (PX s) h0 (by rw[pj,aeX];exact Zd (dJ s 0) hb)
theorem P8 (n b0 b1 b2 b3:Nat) (h:128≤b0∧b0<194∨245≤b0∧b0<256):(afl n b0 b1 b2 b3).2=1:=by
 unfold afl
 repeat' split
 all_goals first | rfl | omega
abbrev G8:Nat×Nat:=afl s.data.toList.length (dJ s 0) (dJ s 1) (dJ s 2) (dJ s 3)
theorem Lr (h0:0<s.data.toList.length) (hb:128≤dJ s 0):an ab5 env 113 [.p (.sc (.string s))] [] (.aA [.aj,sI .i64 ((G8 s).2:Nat)]) []:=by
 have a0:=tF s 0
 have a1:=tF s 1
 have a2:=tF s 2
 have a3:=tF s 3
 by_cases cB:128≤dJ s 0∧dJ s 0<194∨245≤dJ s 0∧dJ s 0<256
 · rw[G8,P8 _ _ _ _ _ cB];exact P0 s h0 cB
 by_cases cC:194≤dJ s 0∧dJ s 0<224
 · rw[G8,←Lib.slow_C2 _ _ _ _ _ h0 a1 a2 a3 cC];exact P1 s h0 cC
 by_cases cD:dJ s 0=224
 · rw[G8,←Lib.slow_E0 _ _ _ _ _ h0 a1 a2 a3 cD];exact P2 s h0 cD
 by_cases cE:225≤dJ s 0∧dJ s 0<237∨238≤dJ s 0∧dJ s 0<240
 · rw[G8,←Lib.slow_E1 _ _ _ _ _ h0 a1 a2 a3 cE];exact P3 s h0 cE
 by_cases cF:dJ s 0=237
 · rw[G8,←Lib.slow_ED _ _ _ _ _ h0 a1 a2 a3 cF];exact P4 s h0 cF
 by_cases cG:dJ s 0=240
 · rw[G8,←Lib.slow_F0 _ _ _ _ _ h0 a1 a2 a3 cG];exact P5 s h0 cG
 by_cases cH:241≤dJ s 0∧dJ s 0<244
 · rw[G8,←Lib.slow_F1 _ _ _ _ _ h0 a1 a2 a3 cH];exact P6 s h0 cH
 · have cI:dJ s 0=244:=by omega
   rw[G8,←Lib.slow_F4 _ _ _ _ _ h0 a1 a2 a3 cI];exact P7 s h0 cI
theorem G9 (h0:0<s.data.toList.length):an ab5 env 103 [.p (.sc (.string s))] [] (.aA [.aj,sI .i64 ((G8 s).2:Nat)]) []:=by
 have he:(s.data.toList==(aeV #[]).data.toList)=false:=by
  cases h:s.data.toList with
  |nil=>rw[h] at h0;cases h0
  |cons a r=>rfl
 have j7:bp 0 s.data.toList.length=true:=by simp only[bp,ch,decide_eq_true_eq];omega
 by_cases hb:dJ s 0<128
 · have e:decide ((dJ s 0:Int)<128)=true:=decide_eq_true (by omega)
   have hd:(G8 s).2=1:=by unfold G8 afl;rw[if_pos hb]
   rw[hd]
   refine dM (r:=ae3.wrap (dJ s 0:Nat)) (af aM (EY s 0) ?_)
   simp only[CW,aC.ok,he,j7,e,oR,aeU,oE,afn,false_implies,true_implies,true_and,and_true]
   first | rfl | trivial
 · have e:decide ((dJ s 0:Int)<128)=false:=decide_eq_false (by omega)
   refine af aM (EY s ((G8 s).2:Nat)) ?_
   simp only[CW,aC.ok,he,j7,e,oR,aeU,oE,afn,false_implies,true_implies,true_and,and_true]
   exact Lr s h0 (by omega)
end
theorem Uh (s:ByteArray) (i:Nat):1≤(afi s i).2:=by
 rw[afm]
 unfold afl
 repeat' split
 all_goals simp
theorem mF (s:ByteArray) (i:Nat):(s.extract i s.data.toList.length).data.toList=s.data.toList.drop i:=by
 simp only[ByteArray.data_extract,Array.toList_extract,List.extract_eq_take_drop]
 rw[List.take_of_length_le]
 rw[dt]
 exact Nat.le_refl _
theorem P9 (s:ByteArray) (j:Nat):s.get! j=s.data.toList.getD j 0:=by
 obtain⟨d⟩:=s
 show d[j]! = d.toList.getD j 0
 rw[Array.getElem!_eq_getD,cb,Array.getElem?_toList]
 by_cases h:j<d.size
 · simp[Array.getD,h]
 · simp[Array.getD,h];rfl
theorem Qa (s:ByteArray) (i:Nat):G8 (s.extract i s.data.toList.length)=afi s i:=by
 have g : ∀j,(s.get! (i+j)).toNat=dJ (s.extract i s.data.toList.length) j:=fun j=>by
  rw[P9,dJ,mF,cb,cb,List.getElem?_drop]
 have g0:=g 0
 rw[Nat.add_zero] at g0
 rw[afm,G8,g0,g 1,g 2,g 3,mF,dt]
 rfl
def Qb (s:ByteArray):Nat→Nat→Int
 |0,_=> -1
 |k+1,i=>if i<s.size then(if(afi s i).1=65533∧(afi s i).2=1 then i else Qb s k (i+(afi s i).2)) else -1
def Ui (s:ByteArray):Int:=Qb s (s.size+1) 0
noncomputable abbrev uX (s:ByteArray) (k:aG):cm:=ak ab5 env 82 0 [.p (.sc (.string s)),.mp 0 0] [.ob k []] 0 28
theorem Ze (s:ByteArray) (i:Nat):(uX s (.iter s i)).st.mem=[.ob (.iter s i) []]:=by kernel_rfl
theorem Uj (s:ByteArray) (i:Nat):CE (uX s (.iter s i))=true:=by kernel_rfl
theorem Uk (s:ByteArray) (i:Nat) (b:Bool):({uX s (.iter s i) with st:={(uX s (.iter s i)).st with mem:=[.ob (.Sr s i b) []]}}:cm)=uX s (.Sr s i b):=by kernel_rfl
theorem Ji (s:ByteArray) (i:Nat) (o:Out) (h:bR ab5 env (uX s (.Sr s i (ar i s.size))) o):bR ab5 env (uX s (.iter s i)) o:=by
 rw[←Uk] at h
 have e1:=Ze s i
 have e2:=Uj s i
 generalize uX s (.iter s i)=c at h e1 e2 ⊢
 exact Go.Am.bR.more e1 e2 h
theorem Ul (s:ByteArray) (hs:s.size≤maxLen) : ∀(k i:Nat),s.size+1≤i+k →
  bR ab5 env (ak ab5 env 82 0 [.p (.sc (.string s)),.mp 0 0] [.ob (.iter s i) []] 0 28) (.ret (sI .i64 (Qb s k i)) []):=by
 intro k
 induction k with
 |zero=>
  intro i hi
  refine Ji s i _ ?_
  have hb:ar i s.size=false:=by cases h:ar i s.size with | false=>rfl | true=>rw[fi] at h;omega
  rw[hb]
  exact ah aM (EZ s i 0) rfl
 |succ k ih=>
  intro i hi
  refine Ji s i _ ?_
  by_cases hlt:i<s.size
  · have hb:ar i s.size=true:=by rw[fi];exact hlt
    have hp:=Uh s i
    have hn:s.data.toList.length=s.size:=Array.length_toList
    have hc:=G9 (s.extract i s.data.toList.length) (by rw[mF,dt];omega)
    rw[Qa] at hc
    rw[hb]
    refine ah aM (PZ s i ((afi s i).2:Nat)) ?_
    have next:=ih (i+(afi s i).2) (by omega)
    simp only[Jg,bN,aC.ok,aep,Qb,if_pos hlt]
    refine⟨fun q=> ?_,fun q=>⟨?_,hc,fun r=> ?_,fun r=> ?_⟩⟩
    · have q:(afi s i).1≠65533:=fun h=>by rw[h] at q;exact absurd q (by decide)
      rw[if_neg (fun h=>q h.1)]
      exact next
    · simp only[aeU,ch,Nat.ble_eq];omega
    · have q:(afi s i).1=65533:=by simp only[bne_eq_false_iff_eq] at q;omega
      have r:(afi s i).2=1:=by simp only[beq_iff_eq] at r;omega
      rw[if_pos ⟨q,r⟩]
    · have r:(afi s i).2≠1:=fun h=>by rw[h] at r;exact absurd r (by decide)
      rw[if_neg (fun h=>r h.2)]
      exact next
  · have hb:ar i s.size=false:=by cases h:ar i s.size with | false=>rfl | true=>rw[fi] at h;omega
    rw[hb]
    refine ah aM (EZ s i 0) ?_
    simp only[Jh,aC.ok,Qb,if_neg hlt]
theorem CX (s:ByteArray):aeV ((s.data.toList.map lR).map Am.byteOf).toArray=s:=by
 have h:(Am.byteOf ∘ lR)=id:=funext fun b=>by
  show UInt8.ofNat ((b.toNat:Int)).toNat=b
  simp
 rw[List.map_map,h,List.map_id]
theorem Qc (l:List UInt8):(l.map lR).all isByte=true:=by
 rw[List.all_map,List.all_eq_true]
 intro b _
 rfl
theorem Ls (s:ByteArray) (hs:s.size≤maxLen):an ab5 env 82 [.p (.ps s.data.toList.length 1 (s.data.toList.map lR))] [] (sI .i64 (Ui s)) []:=by
 refine af aM (PY s.data.toList.length (s.data.toList.map lR)) ?_
 simp only[Jf,aC.ok,CX]
 exact⟨by rw[Qc];rfl,Ul s hs (s.size+1) 0 (by omega)⟩
def Um (_:List Ins) (_ _ _:Int) (R:List AV→Int) (f:FuncId) (args:List AV) (m:Mem):Option (AV×Mem):=cond (ae f 16) (some (sI .i64 (R args),m)) none
def Zf:bD:=aQ aI av [(16,0)] [] []
def ady:Sc:= .fin
def Un (l:List Ins) (most:Int):aC:=
 (.at (ak ab5 env 16 0 [AV.p (PV.ps l.length 8 (aq l)),AV.p (PV.sc (sd rn most)),AV.p (PV.sc (sd rn 0)),AV.p (PV.sc (sd rn 0))] ([]) 0 58))
theorem Qd (l:List Ins) (most:Int):aH ab5 env Zf 1000000 16 ([aL l,sI rn most]) ([]) ady=Un l most:=by kernel_rfl
def Uo (l:List Ins) (most:Int) (n:Int) (i:Int) (R:List AV→Int):bD:=aQ (Um l most n i R) av [(16,0)] [(16,4,5),(16,0,1),(16,0,2),(16,0,3)] [(16,6,4),(16,6,6),(16,8,3),(16,8,5),(16,10,3),(16,10,5)]
def Zg:Sc:=(.fork (.fork (.fork .fin (.no .fin)) .fin) (.lit .fin))
def yP (l:List Ins) (most:Int) (n:Int) (i:Int) (R:List AV→Int):aC:=
 (.test (decide (i<(↑l.length:Int)))
  (.test (decide (n≤most))
   (.must (bp i l.length&&true&&true)
    (.must (bB (aB (aq l) (i.toNat*8+5))&&true)
     (.test (decide (rn.wrap (rn.wrap (n+1)+bif true then ad3 (↑(aD (aB (aq l) (i.toNat*8+5))):Int) most else aeh (↑(aD (aB (aq l) (i.toNat*8+5))):Int) most)≤most))
      (.must (bp i l.length&&true&&true)
       (.must (bB (aB (aq l) (i.toNat*8+6))&&true)
        (.call ⟨16,[AV.p (PV.ps (aD (aB (aq l) (i.toNat*8+6))) (bh (aB (aq l) (i.toNat*8+6))) (au (aB (aq l) (i.toNat*8+6)))),AV.p (PV.sc (sd rn (rn.wrap (most-rn.wrap (rn.wrap (n+1)+bif true then ad3 (↑(aD (aB (aq l) (i.toNat*8+5))):Int) most else aeh (↑(aD (aB (aq l) (i.toNat*8+5))):Int) most)))))],[],AV.p (PV.sc (sd rn (R [AV.p (PV.ps (aD (aB (aq l) (i.toNat*8+6))) (bh (aB (aq l) (i.toNat*8+6))) (au (aB (aq l) (i.toNat*8+6)))),AV.p (PV.sc (sd rn (rn.wrap (most-rn.wrap (rn.wrap (n+1)+bif true then ad3 (↑(aD (aB (aq l) (i.toNat*8+5))):Int) most else aeh (↑(aD (aB (aq l) (i.toNat*8+5))):Int) most)))))]))),[]⟩
         (.test (decide (rn.wrap (rn.wrap (rn.wrap (n+1)+bif true then ad3 (↑(aD (aB (aq l) (i.toNat*8+5))):Int) most else aeh (↑(aD (aB (aq l) (i.toNat*8+5))):Int) most)+R [AV.p (PV.ps (aD (aB (aq l) (i.toNat*8+6))) (bh (aB (aq l) (i.toNat*8+6))) (au (aB (aq l) (i.toNat*8+6)))),AV.p (PV.sc (sd rn (rn.wrap (most-rn.wrap (rn.wrap (n+1)+bif true then ad3 (↑(aD (aB (aq l) (i.toNat*8+5))):Int) most else aeh (↑(aD (aB (aq l) (i.toNat*8+5))):Int) most)))))])≤most))
          (.must (bp i l.length&&true&&true)
           (.must (bB (aB (aq l) (i.toNat*8+7))&&true)
            (.call ⟨16,[AV.p (PV.ps (aD (aB (aq l) (i.toNat*8+7))) (bh (aB (aq l) (i.toNat*8+7))) (au (aB (aq l) (i.toNat*8+7)))),AV.p (PV.sc (sd rn (rn.wrap (most-rn.wrap (rn.wrap (rn.wrap (n+1)+bif true then ad3 (↑(aD (aB (aq l) (i.toNat*8+5))):Int) most else aeh (↑(aD (aB (aq l) (i.toNat*8+5))):Int) most)+R [AV.p (PV.ps (aD (aB (aq l) (i.toNat*8+6))) (bh (aB (aq l) (i.toNat*8+6))) (au (aB (aq l) (i.toNat*8+6)))),AV.p (PV.sc (sd rn (rn.wrap (most-rn.wrap (rn.wrap (n+1)+bif true then ad3 (↑(aD (aB (aq l) (i.toNat*8+5))):Int) most else aeh (↑(aD (aB (aq l) (i.toNat*8+5))):Int) most)))))])))))],[],AV.p (PV.sc (sd rn (R [AV.p (PV.ps (aD (aB (aq l) (i.toNat*8+7))) (bh (aB (aq l) (i.toNat*8+7))) (au (aB (aq l) (i.toNat*8+7)))),AV.p (PV.sc (sd rn (rn.wrap (most-rn.wrap (rn.wrap (rn.wrap (n+1)+bif true then ad3 (↑(aD (aB (aq l) (i.toNat*8+5))):Int) most else aeh (↑(aD (aB (aq l) (i.toNat*8+5))):Int) most)+R [AV.p (PV.ps (aD (aB (aq l) (i.toNat*8+6))) (bh (aB (aq l) (i.toNat*8+6))) (au (aB (aq l) (i.toNat*8+6)))),AV.p (PV.sc (sd rn (rn.wrap (most-rn.wrap (rn.wrap (n+1)+bif true then ad3 (↑(aD (aB (aq l) (i.toNat*8+5))):Int) most else aeh (↑(aD (aB (aq l) (i.toNat*8+5))):Int) most)))))])))))]))),[]⟩
             (.at (ak ab5 env 16 0 [AV.p (PV.ps l.length 8 (aq l)),AV.p (PV.sc (sd rn most)),AV.p (PV.sc (sd rn (rn.wrap (rn.wrap (rn.wrap (rn.wrap (n+1)+bif true then ad3 (↑(aD (aB (aq l) (i.toNat*8+5))):Int) most else aeh (↑(aD (aB (aq l) (i.toNat*8+5))):Int) most)+R [AV.p (PV.ps (aD (aB (aq l) (i.toNat*8+6))) (bh (aB (aq l) (i.toNat*8+6))) (au (aB (aq l) (i.toNat*8+6)))),AV.p (PV.sc (sd rn (rn.wrap (most-rn.wrap (rn.wrap (n+1)+bif true then ad3 (↑(aD (aB (aq l) (i.toNat*8+5))):Int) most else aeh (↑(aD (aB (aq l) (i.toNat*8+5))):Int) most)))))])+R [AV.p (PV.ps (aD (aB (aq l) (i.toNat*8+7))) (bh (aB (aq l) (i.toNat*8+7))) (au (aB (aq l) (i.toNat*8+7)))),AV.p (PV.sc (sd rn (rn.wrap (most-rn.wrap (rn.wrap (rn.wrap (n+1)+bif true then ad3 (↑(aD (aB (aq l) (i.toNat*8+5))):Int) most else aeh (↑(aD (aB (aq l) (i.toNat*8+5))):Int) most)+R [AV.p (PV.ps (aD (aB (aq l) (i.toNat*8+6))) (bh (aB (aq l) (i.toNat*8+6))) (au (aB (aq l) (i.toNat*8+6)))),AV.p (PV.sc (sd rn (rn.wrap (most-rn.wrap (rn.wrap (n+1)+bif true then ad3 (↑(aD (aB (aq l) (i.toNat*8+5))):Int) most else aeh (↑(aD (aB (aq l) (i.toNat*8+5))):Int) most)))))])))))])))),AV.p (PV.sc (sd rn (rn.wrap (i+1))))] ([]) 0 58)))))
          (.at (ak ab5 env 16 0 [AV.p (PV.ps l.length 8 (aq l)),AV.p (PV.sc (sd rn most)),AV.p (PV.sc (sd rn (rn.wrap (rn.wrap (rn.wrap (n+1)+bif true then ad3 (↑(aD (aB (aq l) (i.toNat*8+5))):Int) most else aeh (↑(aD (aB (aq l) (i.toNat*8+5))):Int) most)+R [AV.p (PV.ps (aD (aB (aq l) (i.toNat*8+6))) (bh (aB (aq l) (i.toNat*8+6))) (au (aB (aq l) (i.toNat*8+6)))),AV.p (PV.sc (sd rn (rn.wrap (most-rn.wrap (rn.wrap (n+1)+bif true then ad3 (↑(aD (aB (aq l) (i.toNat*8+5))):Int) most else aeh (↑(aD (aB (aq l) (i.toNat*8+5))):Int) most)))))])))),AV.p (PV.sc (sd rn (rn.wrap (i+1))))] ([]) 0 58))))))
      (.must (!(decide (rn.wrap (rn.wrap (n+1)+bif true then ad3 (↑(aD (aB (aq l) (i.toNat*8+5))):Int) most else aeh (↑(aD (aB (aq l) (i.toNat*8+5))):Int) most)≤most)))
       (.at (ak ab5 env 16 0 [AV.p (PV.ps l.length 8 (aq l)),AV.p (PV.sc (sd rn most)),AV.p (PV.sc (sd rn (rn.wrap (rn.wrap (n+1)+bif true then ad3 (↑(aD (aB (aq l) (i.toNat*8+5))):Int) most else aeh (↑(aD (aB (aq l) (i.toNat*8+5))):Int) most)))),AV.p (PV.sc (sd rn (rn.wrap (i+1))))] ([]) 0 58))))))
   (.out (Out.ret (AV.p (PV.sc (sd rn n))) [])))
  (.out (Out.ret (AV.p (PV.sc (sd rn n))) [])))
theorem Bf (l:List Ins) (most:Int) (n:Int) (i:Int) (R:List AV→Int):grow ab5 env (Uo l most n i R) 1000000 true (ak ab5 env 16 0 ([aL l,sI rn most,sI rn n,sI rn i]) ([]) 0 58) Zg atEnd=yP l most n i R:=by kernel_rfl
theorem E0 (R:List AV→Int) (hR : ∀l most,R [aL l,sI .i64 most]=dm l most 0) (l:List Ins) (most:Int) (h0:0≤most) (hm:most≤1000000000000) (hl:l.length≤maxLen)
  (IH : ∀x∈l,∀m':Int,0≤m'→m'≤most→an ab5 env 16 [aL x.l,sI .i64 m'] [] (sI .i64 (dm x.l m' 0)) []∧an ab5 env 16 [aL x.e,sI .i64 m'] [] (sI .i64 (dm x.e m' 0)) []) :
  ∀(r k:Nat) (n:Int),k+r=l.length→0≤n→n≤2*most+1→bR ab5 env (ak ab5 env 16 0 [aL l,sI .i64 most,sI .i64 n,sI .i64 k] [] 0 58) (.ret (sI .i64 (dm (l.drop k) most n)) []):=by
 intro r
 induction r with
 |zero=>
  intro k n hk hn0 hn
  refine ah aM (Bf l most n k R) ?_
  have h1:l.drop k=[]:=List.drop_eq_nil_of_le (by omega)
  have h2 : ¬((k:Int)<l.length):=by omega
  simp[yP,bN,aC.ok,h1,h2,dm]
 |succ r ih=>
  intro k n hk hn0 hn
  refine ah aM (Bf l most n k R) ?_
  have Au:k<l.length:=by omega
  have vo:l[k]? = some l[k]:=bm Au
  have hmem:l[k]∈l:=List.getElem_mem Au
  have hd:l.drop k=l[k]::l.drop (k+1):=List.drop_eq_getElem_cons Au
  rw[hd]
  generalize l[k]=x at *
  obtain⟨op,rs,a,b,nn,tags,ll,le⟩:=x
  have hc:=tv vo
  have c5:(aq l).getD (k*8+5) .bK = .ps tags.length 1 (dw .u32 tags):=hc 5 (by omega)
  have c6:(aq l).getD (k*8+6) .bK = .ps ll.length 8 (aq ll):=hc 6 (by omega)
  have c7:(aq l).getD (k*8+7) .bK = .ps le.length 8 (aq le):=hc 7 (by omega)
  have hML:maxLen=9223372036854775807:=rfl
  have hw:rn.wrap ((k:Int)+1)=((k+1:Nat):Int):=by rw[aO (by omega) (by omega)];rfl
  have hw1:rn.wrap (n+1)=n+1:=aO (by omega) (by omega)
  have hkI:(k:Int)<(l.length:Int):=by omega
  simp only[yP,bN,aC.ok,c5,c6,c7,aD,bh,au,bB,aep,bp,cond_true,hw,hw1]
  refine⟨fun _=>⟨fun hnm=>⟨by simp[hkI],rfl,?_⟩,fun hnm=> ?_⟩,fun h=>absurd hkI (by simpa using h)⟩
  · have hnm:n≤most:=by simpa using hnm
    have Zh:=IH _ hmem
    simp only[dm,if_pos hnm,x7,Ins.l,Ins.e] at Zh ⊢
    generalize hn1:n+1+min (tags.length:Int) most=n1
    have FO:0≤n1∧n1≤2*most+1:=by omega
    have hw2:rn.wrap n1=n1:=aO (by omega) (by omega)
    simp only[hw2]
    have hw3:rn.wrap (most-n1)=most-n1:=aO (by omega) (by omega)
    simp only[hw3,hR]
    refine⟨fun h1=> ?_,fun h1=> ?_⟩
    · have h1:n1≤most:=by simpa using h1
      rw[if_pos h1]
      have hb:=cu ll (most-n1) 0 (by omega) (by omega) (by omega)
      have hw4:rn.wrap (n1+dm ll (most-n1) 0)=n1+dm ll (most-n1) 0:=aO (by omega) (by omega)
      refine⟨by simp[hkI],rfl,(Zh (most-n1) (by omega) (by omega)).1,?_⟩
      simp only[hw4]
      generalize hn2:n1+dm ll (most-n1) 0=n2
      have hr2:0≤n2∧n2≤2*most+1:=by omega
      have hw5:rn.wrap (most-n2)=most-n2:=aO (by omega) (by omega)
      simp only[hw5]
      refine⟨fun h2=> ?_,fun h2=> ?_⟩
      · have h2:n2≤most:=by simpa using h2
        rw[if_pos h2]
        have hb2:=cu le (most-n2) 0 (by omega) (by omega) (by omega)
        have hw6:rn.wrap (n2+dm le (most-n2) 0)=n2+dm le (most-n2) 0:=aO (by omega) (by omega)
        refine⟨by simp[hkI],rfl,(Zh (most-n2) (by omega) (by omega)).2,?_⟩
        simp only[hw6]
        exact ih (k+1) _ (by omega) (by omega) (by omega)
      · have h2 : ¬n2≤most:=by simpa using h2
        rw[if_neg h2]
        exact ih (k+1) n2 (by omega) (by omega) (by omega)
    · have h1 : ¬n1≤most:=by simpa using h1
      rw[if_neg h1,if_neg h1]
      refine⟨by simpa using h1,?_⟩
      exact ih (k+1) n1 (by omega) (by omega) (by omega)
  · have hnm : ¬n≤most:=by simpa using hnm
    simp only[dm,if_neg hnm]
theorem NI {l m:List Ins} (h:aL l=aL m):l=m:=by
 simp only[AV.p.injEq,PV.ps.injEq] at h
 exact nP h.2.2
open Classical in
def Zi (args:List AV):Int:=if h : ∃l most,args=[aL l,sI .i64 most] then dm h.choose h.choose_spec.choose 0 else 0
theorem Up (l:List Ins) (most:Int):Zi [aL l,sI .i64 most]=dm l most 0:=by
 have h : ∃l' most',[aL l,sI .i64 most]=[aL l',sI .i64 most']:=⟨l,most,rfl⟩
 have e:=h.choose_spec.choose_spec
 unfold Zi
 rw[dif_pos h]
 have e1:=NI (List.cons.inj e).1
 have e2:most=h.choose_spec.choose:=by
  have:=(List.cons.inj (List.cons.inj e).2).1
  simpa only[AV.p.injEq,PV.sc.injEq,Value.int.injEq,true_and] using this
 have e:(h.choose,h.choose_spec.choose)=(l,most):=by rw[Prod.mk.injEq];exact⟨e1.symm,e2.symm⟩
 exact congrArg (fun q:List Ins×Int=>dm q.1 q.2 0) e
theorem gJ : ∀(N:Nat) (l:List Ins) (most:Int),iy l≤N→l.length≤maxLen→Ky l→0≤most→most≤1000000000000→an ab5 env 16 [aL l,sI .i64 most] [] (sI .i64 (dm l most 0)) []
 |N,l,most,hN,hl,hw,h0,hm=>by
  have IH : ∀x∈l,∀m':Int,0≤m'→m'≤most→an ab5 env 16 [aL x.l,sI .i64 m'] [] (sI .i64 (dm x.l m' 0)) []∧an ab5 env 16 [aL x.e,sI .i64 m'] [] (sI .i64 (dm x.e m' 0)) []:=by
   intro x hx m' h0' hm'
   have hc:=xZ hx
   have hwx:=Go.Am.rD hw hx
   obtain⟨op,rs,a,b,nn,tags,ll,le⟩:=x
   simp only[xY] at hc
   simp only[V5] at hwx
   match N,hN with
   |0,hN=>omega
   |N+1,hN=>exact⟨gJ N ll m' (by omega) hwx.2.2.2.2.2.2.1.1 hwx.2.2.2.2.2.2.1.2 h0' (by omega),gJ N le m' (by omega) hwx.2.2.2.2.2.2.2.1 hwx.2.2.2.2.2.2.2.2 h0' (by omega)⟩
  refine af aM (Qd l most) ?_
  have h:=E0 Zi Up l most h0 hm hl IH l.length 0 0 (by omega) (by omega) (by omega)
  rw[List.drop_zero] at h
  exact h
end Go.Proofs.YtjfgfhaoeicpdaaGreatDoor.N
end
