import Derived.Test.YtjfgfhaoeicpdaaGreatDoorMM
import Derived.Test.YtjfgfhaoeicpdaaGreatDoorMO
import Derived.Test.YtjfgfhaoeicpdaaGreatDoorMH
open Nat renaming zero_add→pj,beq→ae,le_refl→bj,zero_mul→afx,zero_le→QQ,ble_eq→aeT
open Go.IntKind renaming i64→rn,u64→afo,u32→abb
open List renaming map→abG,flatMap→aeR,getElem?_eq_some_iff→di,getElem?_eq_getElem→bm,getD_eq_getElem?_getD→cb,length_map→mf,length_append→de,append_assoc→vz,map_append→abm,map_map→afz,take→abT,drop→afA
open Go.Value renaming int→sd
open Go.Proofs.Tryz renaming prog→ab5
open Bool renaming and_eq_true→ch,and_true→aeU,true_and→ae2,false_eq_true→oE,true_eq_false→afn
open Int renaming toNat_natCast→aep
open Decidable renaming not_not→afC
open Option.some renaming injEq→cp,inj→c8
open Option renaming some→acx,none→acb
open Go.TypeInfo renaming mk→aca
open Go.TypeDesc renaming int→afE,bool→afM
noncomputable section
section
set_option linter.unusedSimpArgs false
set_option linter.unusedVariables false
namespace Go.Proofs.YtjfgfhaoeicpdaaGreatDoor.N
open Go Go.Am
def ZA:Env:={env with wr:=fun f d=>ae f 40&&ae d 23}
def vxC (M:Mo) (i:Nat) (L:List ByteArray) (c0 c1 c2 c3:Int) (e:Int) (f:FuncId) (args:List AV) (m:Mem):Option (AV×Mem):=cond (ae f 37) (some (.aA [sI .i64 e,sI .i64 0],m)) none
def ahc (M:Mo) (i:Nat) (L:List ByteArray) (c0 c1 c2 c3:Int) (e:Int):FuncId→Nat→Nat→Option (AV→AV):=cL [(88,3,5,sI .i64 0)]
def ahd (M:Mo) (i:Nat) (L:List ByteArray) (c0 c1 c2 c3:Int) (e:Int):FuncId→Nat→Nat→Option (AV→AV):=cL [(88,3,5,sI .i64 1)]
def ahe (M:Mo) (i:Nat) (L:List ByteArray) (c0 c1 c2 c3:Int) (e:Int):FuncId→Nat→Nat→Option (AV→AV):=cL [(88,3,5,sI .i64 2)]
def ahf (M:Mo) (i:Nat) (L:List ByteArray) (c0 c1 c2 c3:Int) (e:Int):FuncId→Nat→Nat→Option (AV→AV):=cL [(88,3,5,sI .i64 3)]
def veC (M:Mo) (LL:List ByteArray) (e s i a:Int) (f:FuncId) (args:List AV) (m:Mem):Option (AV×Mem):=cond (ae f 35) (some (.agg [sI .i64 e,sI .i64 s,sI .i64 i,sI .i64 a],[.pc M.aJ,.ac [.vm 3],.ac [.vm 4],.ob (.map [.int .i64 0,.int .i64 1,.int .i64 2,.int .i64 3] [0,1,2,3] 4) [sI .i64 (rn.wrap ((↑M.aZ.length:Int)+(↑M.fns.length:Int))),sI .i64 (↑M.cj.length:Int),sI .i64 (↑M.cM.length:Int),sI .i64 (↑M.gls.length:Int)],.ob (.smap LL) []])) none
def ZB (M:Mo) (i:Nat) (L:List ByteArray) (c0 c1 c2 c3 e:Int):bD:=fy (vxC M i L c0 c1 c2 c3 e) av [] [(88,0,0)] [(88,2,3),(88,2,4)] (ahc M i L c0 c1 c2 c3 e)
def adG:Sc:= .fin
def Jo (M:Mo) (i:Nat) (L:List ByteArray) (c0 c1 c2 c3 e:Int):aC:=
 (.must (bp (↑i:Int) M.exs.length&&true&&true)
 (.must (isStr (aB (aeR aW M.exs) (aK i*3))&&(isInt rn (aB (aeR aW M.exs) (aK i*3+1))&&(isInt abb (aB (aeR aW M.exs) (aK i*3+1+1))&&true))&&true)
 (.need (sI .i64 (az (aB (aeR aW M.exs) (aK i*3+1)))=sI rn 0)
 (.test (decide (afo.wrap (az (aB (aeR aW M.exs) (aK i*3+1+1)))≥afo.wrap c0))
 (.out (.ret (.aA [sI .i64 6,sI .i64 0]) [.pc M.aJ,.ac [.vm 3],.ac [.vm 4],.ob (aG.map [sd rn 0,sd rn 1,sd rn 2,sd rn 3] [0,1,2,3] 4) [sI .i64 c0,sI .i64 c1,sI .i64 c2,sI .i64 c3],.ob (aG.smap L) []]))
 (.call ⟨37,[.p (.sc (.bool !fX L (bI (aB (aeR aW M.exs) (aK i*3))))),sI .i64 7],[],.aA [sI .i64 e,sI .i64 0],[]⟩
 (.out (.ret (.aA [sI .i64 e,sI .i64 0]) [.pc M.aJ,.ac [.vm 3],.ac [.vm 4],.ob (aG.map [sd rn 0,sd rn 1,sd rn 2,sd rn 3] [0,1,2,3] 4) [sI .i64 c0,sI .i64 c1,sI .i64 c2,sI .i64 c3],.ob (aG.smap (qC L (bI (aB (aeR aW M.exs) (aK i*3))))) []])))))))
theorem Qq (M:Mo) (i:Nat) (L:List ByteArray) (c0 c1 c2 c3 e:Int):aH ab5 env (ZB M i L c0 c1 c2 c3 e) 1000000 88 ([sI rn (↑i:Int),AV.mp 0 0,AV.mp 1 0,AV.mp 2 0]) ([aU.pc M.aJ,aU.ac [AV.vm 3],aU.ac [AV.vm 4],aU.ob (aG.map [sd rn 0,sd rn 1,sd rn 2,sd rn 3] [0,1,2,3] 4) [sI rn c0,sI rn c1,sI rn c2,sI rn c3],aU.ob (aG.smap L) []]) adG=Jo M i L c0 c1 c2 c3 e:=by kernel_rfl
def ZC (M:Mo) (i:Nat) (L:List ByteArray) (c0 c1 c2 c3 e:Int):bD:=fy (vxC M i L c0 c1 c2 c3 e) av [] [(88,0,0)] [(88,2,3),(88,2,4)] (ahd M i L c0 c1 c2 c3 e)
def adH:Sc:= .fin
def Jp (M:Mo) (i:Nat) (L:List ByteArray) (c0 c1 c2 c3 e:Int):aC:=
 (.must (bp (↑i:Int) M.exs.length&&true&&true)
 (.must (isStr (aB (aeR aW M.exs) (aK i*3))&&(isInt rn (aB (aeR aW M.exs) (aK i*3+1))&&(isInt abb (aB (aeR aW M.exs) (aK i*3+1+1))&&true))&&true)
 (.need (sI .i64 (az (aB (aeR aW M.exs) (aK i*3+1)))=sI rn 1)
 (.test (decide (afo.wrap (az (aB (aeR aW M.exs) (aK i*3+1+1)))≥afo.wrap c1))
 (.out (.ret (.aA [sI .i64 6,sI .i64 0]) [.pc M.aJ,.ac [.vm 3],.ac [.vm 4],.ob (aG.map [sd rn 0,sd rn 1,sd rn 2,sd rn 3] [0,1,2,3] 4) [sI .i64 c0,sI .i64 c1,sI .i64 c2,sI .i64 c3],.ob (aG.smap L) []]))
 (.call ⟨37,[.p (.sc (.bool !fX L (bI (aB (aeR aW M.exs) (aK i*3))))),sI .i64 7],[],.aA [sI .i64 e,sI .i64 0],[]⟩
 (.out (.ret (.aA [sI .i64 e,sI .i64 0]) [.pc M.aJ,.ac [.vm 3],.ac [.vm 4],.ob (aG.map [sd rn 0,sd rn 1,sd rn 2,sd rn 3] [0,1,2,3] 4) [sI .i64 c0,sI .i64 c1,sI .i64 c2,sI .i64 c3],.ob (aG.smap (qC L (bI (aB (aeR aW M.exs) (aK i*3))))) []])))))))
theorem Qr (M:Mo) (i:Nat) (L:List ByteArray) (c0 c1 c2 c3 e:Int):aH ab5 env (ZC M i L c0 c1 c2 c3 e) 1000000 88 ([sI rn (↑i:Int),AV.mp 0 0,AV.mp 1 0,AV.mp 2 0]) ([aU.pc M.aJ,aU.ac [AV.vm 3],aU.ac [AV.vm 4],aU.ob (aG.map [sd rn 0,sd rn 1,sd rn 2,sd rn 3] [0,1,2,3] 4) [sI rn c0,sI rn c1,sI rn c2,sI rn c3],aU.ob (aG.smap L) []]) adH=Jp M i L c0 c1 c2 c3 e:=by kernel_rfl
def ZD (M:Mo) (i:Nat) (L:List ByteArray) (c0 c1 c2 c3 e:Int):bD:=fy (vxC M i L c0 c1 c2 c3 e) av [] [(88,0,0)] [(88,2,3),(88,2,4)] (ahe M i L c0 c1 c2 c3 e)
def adI:Sc:= .fin
def Jq (M:Mo) (i:Nat) (L:List ByteArray) (c0 c1 c2 c3 e:Int):aC:=
 (.must (bp (↑i:Int) M.exs.length&&true&&true)
 (.must (isStr (aB (aeR aW M.exs) (aK i*3))&&(isInt rn (aB (aeR aW M.exs) (aK i*3+1))&&(isInt abb (aB (aeR aW M.exs) (aK i*3+1+1))&&true))&&true)
 (.need (sI .i64 (az (aB (aeR aW M.exs) (aK i*3+1)))=sI rn 2)
 (.test (decide (afo.wrap (az (aB (aeR aW M.exs) (aK i*3+1+1)))≥afo.wrap c2))
 (.out (.ret (.aA [sI .i64 6,sI .i64 0]) [.pc M.aJ,.ac [.vm 3],.ac [.vm 4],.ob (aG.map [sd rn 0,sd rn 1,sd rn 2,sd rn 3] [0,1,2,3] 4) [sI .i64 c0,sI .i64 c1,sI .i64 c2,sI .i64 c3],.ob (aG.smap L) []]))
 (.call ⟨37,[.p (.sc (.bool !fX L (bI (aB (aeR aW M.exs) (aK i*3))))),sI .i64 7],[],.aA [sI .i64 e,sI .i64 0],[]⟩
 (.out (.ret (.aA [sI .i64 e,sI .i64 0]) [.pc M.aJ,.ac [.vm 3],.ac [.vm 4],.ob (aG.map [sd rn 0,sd rn 1,sd rn 2,sd rn 3] [0,1,2,3] 4) [sI .i64 c0,sI .i64 c1,sI .i64 c2,sI .i64 c3],.ob (aG.smap (qC L (bI (aB (aeR aW M.exs) (aK i*3))))) []])))))))
theorem Qs (M:Mo) (i:Nat) (L:List ByteArray) (c0 c1 c2 c3 e:Int):aH ab5 env (ZD M i L c0 c1 c2 c3 e) 1000000 88 ([sI rn (↑i:Int),AV.mp 0 0,AV.mp 1 0,AV.mp 2 0]) ([aU.pc M.aJ,aU.ac [AV.vm 3],aU.ac [AV.vm 4],aU.ob (aG.map [sd rn 0,sd rn 1,sd rn 2,sd rn 3] [0,1,2,3] 4) [sI rn c0,sI rn c1,sI rn c2,sI rn c3],aU.ob (aG.smap L) []]) adI=Jq M i L c0 c1 c2 c3 e:=by kernel_rfl
def ZE (M:Mo) (i:Nat) (L:List ByteArray) (c0 c1 c2 c3 e:Int):bD:=fy (vxC M i L c0 c1 c2 c3 e) av [] [(88,0,0)] [(88,2,3),(88,2,4)] (ahf M i L c0 c1 c2 c3 e)
def adJ:Sc:= .fin
def Jr (M:Mo) (i:Nat) (L:List ByteArray) (c0 c1 c2 c3 e:Int):aC:=
 (.must (bp (↑i:Int) M.exs.length&&true&&true)
 (.must (isStr (aB (aeR aW M.exs) (aK i*3))&&(isInt rn (aB (aeR aW M.exs) (aK i*3+1))&&(isInt abb (aB (aeR aW M.exs) (aK i*3+1+1))&&true))&&true)
 (.need (sI .i64 (az (aB (aeR aW M.exs) (aK i*3+1)))=sI rn 3)
 (.test (decide (afo.wrap (az (aB (aeR aW M.exs) (aK i*3+1+1)))≥afo.wrap c3))
 (.out (.ret (.aA [sI .i64 6,sI .i64 0]) [.pc M.aJ,.ac [.vm 3],.ac [.vm 4],.ob (aG.map [sd rn 0,sd rn 1,sd rn 2,sd rn 3] [0,1,2,3] 4) [sI .i64 c0,sI .i64 c1,sI .i64 c2,sI .i64 c3],.ob (aG.smap L) []]))
 (.call ⟨37,[.p (.sc (.bool !fX L (bI (aB (aeR aW M.exs) (aK i*3))))),sI .i64 7],[],.aA [sI .i64 e,sI .i64 0],[]⟩
 (.out (.ret (.aA [sI .i64 e,sI .i64 0]) [.pc M.aJ,.ac [.vm 3],.ac [.vm 4],.ob (aG.map [sd rn 0,sd rn 1,sd rn 2,sd rn 3] [0,1,2,3] 4) [sI .i64 c0,sI .i64 c1,sI .i64 c2,sI .i64 c3],.ob (aG.smap (qC L (bI (aB (aeR aW M.exs) (aK i*3))))) []])))))))
theorem Qt (M:Mo) (i:Nat) (L:List ByteArray) (c0 c1 c2 c3 e:Int):aH ab5 env (ZE M i L c0 c1 c2 c3 e) 1000000 88 ([sI rn (↑i:Int),AV.mp 0 0,AV.mp 1 0,AV.mp 2 0]) ([aU.pc M.aJ,aU.ac [AV.vm 3],aU.ac [AV.vm 4],aU.ob (aG.map [sd rn 0,sd rn 1,sd rn 2,sd rn 3] [0,1,2,3] 4) [sI rn c0,sI rn c1,sI rn c2,sI rn c3],aU.ob (aG.smap L) []]) adJ=Jr M i L c0 c1 c2 c3 e:=by kernel_rfl
def adK (M:Mo) (LL:List ByteArray) (e s i a:Int):bD:=aQ (veC M LL e s i a) av [] [] []
def ahg:Sc:= .fin
def ZF (M:Mo) (LL:List ByteArray) (e s i a:Int):aC:=
 (.call ⟨35,[sI .i64 7,sI .i64 (↑M.exs.length:Int),.fn (Fn.func 88) [] [.mp 0 0,.mp 1 0,.mp 2 0]],[.pc M.aJ,.ac [.vm 3],.ac [.vm 4],.ob (aG.map [sd rn 0,sd rn 1,sd rn 2,sd rn 3] [0,1,2,3] 4) [sI .i64 (rn.wrap ((↑M.aZ.length:Int)+(↑M.fns.length:Int))),sI .i64 (↑M.cj.length:Int),sI .i64 (↑M.cM.length:Int),sI .i64 (↑M.gls.length:Int)],.ob (aG.smap []) []],.agg [sI .i64 e,sI .i64 s,sI .i64 i,sI .i64 a],[.pc M.aJ,.ac [.vm 3],.ac [.vm 4],.ob (aG.map [sd rn 0,sd rn 1,sd rn 2,sd rn 3] [0,1,2,3] 4) [sI .i64 (rn.wrap ((↑M.aZ.length:Int)+(↑M.fns.length:Int))),sI .i64 (↑M.cj.length:Int),sI .i64 (↑M.cM.length:Int),sI .i64 (↑M.gls.length:Int)],.ob (aG.smap LL) []]⟩
 (.out (.ret (.agg [sI .i64 e,sI .i64 s,sI .i64 i,sI .i64 a]) [])))
theorem UH (M:Mo) (LL:List ByteArray) (e s i a:Int):aH ab5 ZA (adK M LL e s i a) 1000000 40 ([AV.agg (abG AV.p M.aJ)]) ([]) ahg=ZF M LL e s i a:=by kernel_rfl
def lF (L:List ByteArray) (c:Int) (x:Ex):Int:=if afo.wrap x.ix≥afo.wrap c then 6 else if fX L x.nm=true then 7 else 0
def rS (L:List ByteArray) (c:Int) (x:Ex):List ByteArray:=if afo.wrap x.ix≥afo.wrap c then L else qC L x.nm
theorem Qu (M:Mo) (L:List ByteArray) (c0 c1 c2 c3:Int) {i:Nat} {x:Ex} (hx:M.exs[i]? = some x) (hk:x.kind=0) :
  an ab5 env 88 [sI .i64 i,.mp 0 0,.mp 1 0,.mp 2 0] (rN M L [] c0 c1 c2 c3) (.aA [sI .i64 (lF L c0 x),sI .i64 0]) (rN M (rS L c0 x) [] c0 c1 c2 c3):=by
 have hi:i<M.exs.length:=(di.1 hx).1
 have c:=bq (z:=3) (enc:=aW) (fun _=>rfl) hx
 have d0:(M.exs.flatMap aW).getD (i*3) .bK = .sc (.string x.nm):=c 0 (by decide)
 have d1:(M.exs.flatMap aW).getD (i*3+1) .bK = .sc (.int .i64 x.kind):=c 1 (by decide)
 have d2:(M.exs.flatMap aW).getD (i*3+1+1) .bK = .sc (.int .u32 x.ix):=c 2 (by decide)
 have hin:bp (i:Int) M.exs.length=true:=by simp only[bp,ch,decide_eq_true_eq];omega
 refine af aM (Qq M i L c0 c1 c2 c3 (if(!fX L x.nm)=true then 0 else 7)) ?_
 simp only[Jo,bN,aC.ok,isStr,isInt,bI,az,aep,d0,d1,d2,hin,hk,aeU,ae2]
 have hu:=eE (!fX L x.nm) 7
 by_cases q:afo.wrap x.ix≥afo.wrap c0
 · have e1:lF L c0 x=6:=if_pos q
   have e2:rS L c0 x=L:=if_pos q
   rw[e1,e2]
   exact⟨(by first | rfl | trivial),(by first | rfl | trivial),(by first | rfl | trivial),fun _=>rfl,fun z=>absurd q (by simpa using z)⟩
 · have e1:lF L c0 x=if(!fX L x.nm)=true then 0 else 7:=by
    rw[lF,if_neg q]
    cases fX L x.nm<;>rfl
   have e2:rS L c0 x=qC L x.nm:=if_neg q
   rw[e1,e2]
   exact⟨(by first | rfl | trivial),(by first | rfl | trivial),(by first | rfl | trivial),fun z=>absurd (by simpa using z) q,fun _=>⟨hu,rfl⟩⟩
theorem Qv (M:Mo) (L:List ByteArray) (c0 c1 c2 c3:Int) {i:Nat} {x:Ex} (hx:M.exs[i]? = some x) (hk:x.kind=1) :
  an ab5 env 88 [sI .i64 i,.mp 0 0,.mp 1 0,.mp 2 0] (rN M L [] c0 c1 c2 c3) (.aA [sI .i64 (lF L c1 x),sI .i64 0]) (rN M (rS L c1 x) [] c0 c1 c2 c3):=by
 have hi:i<M.exs.length:=(di.1 hx).1
 have c:=bq (z:=3) (enc:=aW) (fun _=>rfl) hx
 have d0:(M.exs.flatMap aW).getD (i*3) .bK = .sc (.string x.nm):=c 0 (by decide)
 have d1:(M.exs.flatMap aW).getD (i*3+1) .bK = .sc (.int .i64 x.kind):=c 1 (by decide)
 have d2:(M.exs.flatMap aW).getD (i*3+1+1) .bK = .sc (.int .u32 x.ix):=c 2 (by decide)
 have hin:bp (i:Int) M.exs.length=true:=by simp only[bp,ch,decide_eq_true_eq];omega
 refine af aM (Qr M i L c0 c1 c2 c3 (if(!fX L x.nm)=true then 0 else 7)) ?_
 simp only[Jp,bN,aC.ok,isStr,isInt,bI,az,aep,d0,d1,d2,hin,hk,aeU,ae2]
 have hu:=eE (!fX L x.nm) 7
 by_cases q:afo.wrap x.ix≥afo.wrap c1
 · have e1:lF L c1 x=6:=if_pos q
   have e2:rS L c1 x=L:=if_pos q
   rw[e1,e2]
   exact⟨(by first | rfl | trivial),(by first | rfl | trivial),(by first | rfl | trivial),fun _=>rfl,fun z=>absurd q (by simpa using z)⟩
 · have e1:lF L c1 x=if(!fX L x.nm)=true then 0 else 7:=by
    rw[lF,if_neg q]
    cases fX L x.nm<;>rfl
   have e2:rS L c1 x=qC L x.nm:=if_neg q
   rw[e1,e2]
   exact⟨(by first | rfl | trivial),(by first | rfl | trivial),(by first | rfl | trivial),fun z=>absurd (by simpa using z) q,fun _=>⟨hu,rfl⟩⟩
theorem Qw (M:Mo) (L:List ByteArray) (c0 c1 c2 c3:Int) {i:Nat} {x:Ex} (hx:M.exs[i]? = some x) (hk:x.kind=2) :
  an ab5 env 88 [sI .i64 i,.mp 0 0,.mp 1 0,.mp 2 0] (rN M L [] c0 c1 c2 c3) (.aA [sI .i64 (lF L c2 x),sI .i64 0]) (rN M (rS L c2 x) [] c0 c1 c2 c3):=by
 have hi:i<M.exs.length:=(di.1 hx).1
 have c:=bq (z:=3) (enc:=aW) (fun _=>rfl) hx
 have d0:(M.exs.flatMap aW).getD (i*3) .bK = .sc (.string x.nm):=c 0 (by decide)
 have d1:(M.exs.flatMap aW).getD (i*3+1) .bK = .sc (.int .i64 x.kind):=c 1 (by decide)
 have d2:(M.exs.flatMap aW).getD (i*3+1+1) .bK = .sc (.int .u32 x.ix):=c 2 (by decide)
 have hin:bp (i:Int) M.exs.length=true:=by simp only[bp,ch,decide_eq_true_eq];omega
 refine af aM (Qs M i L c0 c1 c2 c3 (if(!fX L x.nm)=true then 0 else 7)) ?_
 simp only[Jq,bN,aC.ok,isStr,isInt,bI,az,aep,d0,d1,d2,hin,hk,aeU,ae2]
 have hu:=eE (!fX L x.nm) 7
 by_cases q:afo.wrap x.ix≥afo.wrap c2
 · have e1:lF L c2 x=6:=if_pos q
   have e2:rS L c2 x=L:=if_pos q
   rw[e1,e2]
   exact⟨(by first | rfl | trivial),(by first | rfl | trivial),(by first | rfl | trivial),fun _=>rfl,fun z=>absurd q (by simpa using z)⟩
 · have e1:lF L c2 x=if(!fX L x.nm)=true then 0 else 7:=by
    rw[lF,if_neg q]
    cases fX L x.nm<;>rfl
   have e2:rS L c2 x=qC L x.nm:=if_neg q
   rw[e1,e2]
   exact⟨(by first | rfl | trivial),(by first | rfl | trivial),(by first | rfl | trivial),fun z=>absurd (by simpa using z) q,fun _=>⟨hu,rfl⟩⟩
theorem Qx (M:Mo) (L:List ByteArray) (c0 c1 c2 c3:Int) {i:Nat} {x:Ex} (hx:M.exs[i]? = some x) (hk:x.kind=3) :
  an ab5 env 88 [sI .i64 i,.mp 0 0,.mp 1 0,.mp 2 0] (rN M L [] c0 c1 c2 c3) (.aA [sI .i64 (lF L c3 x),sI .i64 0]) (rN M (rS L c3 x) [] c0 c1 c2 c3):=by
 have hi:i<M.exs.length:=(di.1 hx).1
 have c:=bq (z:=3) (enc:=aW) (fun _=>rfl) hx
 have d0:(M.exs.flatMap aW).getD (i*3) .bK = .sc (.string x.nm):=c 0 (by decide)
 have d1:(M.exs.flatMap aW).getD (i*3+1) .bK = .sc (.int .i64 x.kind):=c 1 (by decide)
 have d2:(M.exs.flatMap aW).getD (i*3+1+1) .bK = .sc (.int .u32 x.ix):=c 2 (by decide)
 have hin:bp (i:Int) M.exs.length=true:=by simp only[bp,ch,decide_eq_true_eq];omega
 refine af aM (Qt M i L c0 c1 c2 c3 (if(!fX L x.nm)=true then 0 else 7)) ?_
 simp only[Jr,bN,aC.ok,isStr,isInt,bI,az,aep,d0,d1,d2,hin,hk,aeU,ae2]
 have hu:=eE (!fX L x.nm) 7
 by_cases q:afo.wrap x.ix≥afo.wrap c3
 · have e1:lF L c3 x=6:=if_pos q
   have e2:rS L c3 x=L:=if_pos q
   rw[e1,e2]
   exact⟨(by first | rfl | trivial),(by first | rfl | trivial),(by first | rfl | trivial),fun _=>rfl,fun z=>absurd q (by simpa using z)⟩
 · have e1:lF L c3 x=if(!fX L x.nm)=true then 0 else 7:=by
    rw[lF,if_neg q]
    cases fX L x.nm<;>rfl
   have e2:rS L c3 x=qC L x.nm:=if_neg q
   rw[e1,e2]
   exact⟨(by first | rfl | trivial),(by first | rfl | trivial),(by first | rfl | trivial),fun z=>absurd (by simpa using z) q,fun _=>⟨hu,rfl⟩⟩
def mV (s:Int) (e a:Nat→Int):Nat→Nat→Wr
 |0,_=>(0,0,0,0)
 |r+1,i=>if e i≠0 then(e i,s,i,a i) else mV s e a r (i+1)
theorem mH (s:Int) (e a:Nat→Int) : ∀r i,jf s e a r i=wV (mV s e a r i)
 |0,_=>rfl
 |r+1,i=>by
  rw[jf,mV]
  split
  · rfl
  · exact mH s e a r (i+1)
theorem dH {s:Int} {e a:Nat→Int} : ∀{r i:Nat},(mV s e a r i).1=0 ↔ ∀j,i≤j→j<i+r→e j=0
 |0,i=>⟨fun _ j h1 h2=>by omega,fun _=>rfl⟩
 |r+1,i=>by
  rw[mV]
  by_cases h:e i≠0
  · rw[if_pos h]
    exact⟨fun q=>absurd q h,fun q=>q i (bj _) (by omega)⟩
  · rw[if_neg h,dH]
    have h':e i=0:=afC.1 h
    exact⟨fun q j h1 h2=>by
     by_cases e1:j=i
     · rw[e1];exact h'
     · exact q j (by omega) (by omega),fun q j h1 h2=>q j (by omega) (by omega)⟩
theorem E7 {F:Nat→Wr} : ∀{r d:Nat},Hj F r d=(0,0,0,0) ↔ ∀j,d≤j→j<d+r→(F j).1=0
 |0,i=>⟨fun _ j h1 h2=>by omega,fun _=>rfl⟩
 |r+1,i=>by
  rw[Hj]
  by_cases h:(F i).1≠0
  · rw[if_pos h]
    exact⟨fun q=>absurd (congrArg Prod.fst q) h,fun q=>absurd (q i (bj _) (by omega)) h⟩
  · rw[if_neg h,E7]
    have h':(F i).1=0:=afC.1 h
    exact⟨fun q j h1 h2=>by
     by_cases e1:j=i
     · rw[e1];exact h'
     · exact q j (by omega) (by omega),fun q j h1 h2=>q j (by omega) (by omega)⟩
def Ab (M:Mo) (k:Int):Int:=if k=0 then Hh M else if k=1 then M.cj.length else if k=2 then M.cM.length else M.gls.length
def qn (M:Mo) (l:List Ex) (L:List ByteArray):List ByteArray:=l.foldl (fun L x=>rS L (Ab M x.kind) x) L
def vM (M:Mo) (y:Ty) (lo:Int):kg where
 ty a:=(E5 M a.toNat).map fun z=>(z.p.toNat,z.r.toNat)
 ind a:=if 0<M.cj.length then(M.tys[a.toNat]?).map fun z=>(z.p.toNat,z.r.toNat) else none
 cQ:=M.gls.map Gl.mu
 mem:=decide (0<M.cM.length)
 own:=(y.p+lo).toNat
 ret:=y.r.toNat
def lookW (M:Mo) (n:Nat):Int×Nat:=match M.fns[n]? with
 |none=>(6,0)
 |some x=>match E5 M (M.aZ.length+n) with
  |none=>(6,0)
  |some y=>Bp (vM M y x.lo) x.l
def ct (M:Mo) (d:Nat):Wr:=
 if d=2 then mV 2 (fun i=>(M.aZ[i]?).elim 0 fun x=>Sl M x.ty) (fun _=>0) M.aZ.length 0
 else if d=3 then mV 3 (fun i=>(M.fns[i]?).elim 0 fun x=>Sl M x.ty) (fun _=>0) M.fns.length 0
 else if d=6 then mV 6 (fun i=>(M.gls[i]?).elim 0 fun x=>PN x.l) (fun _=>0) M.gls.length 0
 else if d=7 then mV 7 (fun i=>(M.exs[i]?).elim 0 fun x=>lF (qn M (M.exs.take i) []) (Ab M x.kind) x) (fun _=>0) M.exs.length 0
 else if d=8 then(if M.st=true then mV 8 (fun _=>Sn M) (fun _=>0) 1 0 else(0,0,0,0))
 else if d=9 then mV 9 (fun i=>(M.els[i]?).elim 0 fun x=>Zw M x) (fun _=>0) M.els.length 0
 else if d=10 then mV 10 (fun i=>(lookW M i).1) (fun i=>((lookW M i).2:Nat)) M.fns.length 0
 else if d=11 then mV 11 (fun i=>(M.bt[i]?).elim 0 fun x=>if M.cM.length=0 then 6 else PN x.l) (fun _=>0) M.bt.length 0
 else(0,0,0,0)
theorem kT {α:Type} {l:List α} {f:α→Int}:(∀j,0≤j→j<0+l.length→(l[j]?).elim 0 f=0) ↔ ∀x∈l,f x=0:=by
 constructor
 · intro h x hx
   obtain⟨j,hj,e⟩:=List.getElem_of_mem hx
   have:=h j (QQ _) (by omega)
   rw[bm hj,e] at this
   exact this
 · intro h j _ hj
   rw[bm (by omega:j<l.length)]
   exact h _ (List.getElem_mem _)
structure _root_.Go.Am.Mo.Valid (M:Mo):Prop where
 may:M.UG
 aZ : ∀x∈M.aZ,Sl M x.ty=0
 fns : ∀x∈M.fns,Sl M x.ty=0
 gls : ∀x∈M.gls,PN x.l=0
 exs : ∀i x,M.exs[i]? = some x→lF (qn M (M.exs.take i) []) (Ab M x.kind) x=0
 st:M.st=true→Sn M=0
 els : ∀x∈M.els,Zw M x=0
 bod : ∀i,i<M.fns.length→(lookW M i).1=0
 bt : ∀x∈M.bt,(if M.cM.length=0 then 6 else PN x.l)=0
theorem LA (M:Mo):kI M (ct M)=(0,0,0,0)↔M.Valid:=by
 unfold kI
 by_cases h:mN M≠0
 · rw[if_pos h]
   exact⟨fun q=>absurd (congrArg Prod.fst q) h,fun g=>absurd ((CY M).2 g.may) h⟩
 · rw[if_neg h,E7]
   have h0:mN M=0:=afC.1 h
   constructor
   · intro q
     refine⟨(CY M).1 h0,kT.1 (dH.1 (q 2 (by decide) (by decide))),kT.1 (dH.1 (q 3 (by decide) (by decide))),kT.1 (dH.1 (q 6 (by decide) (by decide))),fun i x hx=> ?_,fun hs=> ?_,
      kT.1 (dH.1 (q 9 (by decide) (by decide))),fun i hi=> ?_,kT.1 (dH.1 (q 11 (by decide) (by decide)))⟩
     · have hi:i<M.exs.length:=(di.1 hx).1
       have k:=dH.1 (q 7 (by decide) (by decide)) i (QQ _) (by omega)
       simp only[hx,Option.elim] at k
       exact k
     · have k:=q 8 (by decide) (by decide)
       rw[show ct M 8=if M.st=true then mV 8 (fun _=>Sn M) (fun _=>0) 1 0 else(0,0,0,0) from rfl,if_pos hs] at k
       exact dH.1 k 0 (bj _) (by decide)
     · exact dH.1 (q 10 (by decide) (by decide)) i (QQ _) (by omega)
   · intro g j h1 h2
     have hj:j=2∨j=3∨j=4∨j=5∨j=6∨j=7∨j=8∨j=9∨j=10∨j=11:=by omega
     rcases hj with rfl | rfl | rfl | rfl | rfl | rfl | rfl | rfl | rfl | rfl
     · exact dH.2 (kT.2 g.aZ)
     · exact dH.2 (kT.2 g.fns)
     · rfl
     · rfl
     · exact dH.2 (kT.2 g.gls)
     · refine dH.2 fun i _ hi=> ?_
       rw[bm (by omega:i<M.exs.length)]
       exact g.exs i _ (bm _)
     · show(if M.st=true then mV 8 (fun _=>Sn M) (fun _=>0) 1 0 else(0,0,0,0)).1=0
       by_cases hs:M.st=true
       · rw[if_pos hs];exact dH.2 fun _ _ _=>g.st hs
       · rw[if_neg hs]
     · exact dH.2 (kT.2 g.els)
     · exact dH.2 fun i _ hi=>g.bod i (by omega)
     · exact dH.2 (kT.2 g.bt)
def Rv (v v':VR):Prop:=v=v' ∨ ∃q,v = .bK 6 q
theorem Qy {a k n:Nat} {d:Bool} {f f':Nat→VR} (h : ∀m,Rv (f m) (f' m)):Rv (dK a k n d f) (dK a k n d f'):=by
 unfold dK
 split
 · exact .inl rfl
 · exact h _
theorem ZG {r n a:Nat} {d:Bool} {f f':VR} (h:Rv f f'):Rv (gM r n d a f) (gM r n d a f'):=by
 unfold gM
 refine Qy fun m=> ?_
 split
 · exact .inl rfl
 · exact h
theorem LB {V:kg} {t:Int→Option (Nat×Nat)} (h : ∀a p,V.ty a=some p→t a=some p) (ls:List Nat) (op a:Int) (tags:List Int) (n:Nat) (d:Bool) (c:Nat):Rv (fW V ls op a tags n d c) (fW {V with ty:=t} ls op a tags n d c):=by
 by_cases o:op=16
 · subst o
   cases e:V.ty a with
   |none=>exact .inr ⟨c,by simp[fW,e]⟩
   |some p=>exact .inl (by simp[fW,e,h a p e])
 · refine .inl ?_
   unfold fW
   rw[if_neg o,if_neg o]
   rfl
mutual
theorem LC {V:kg} {t:Int→Option (Nat×Nat)} (h : ∀a p,V.ty a=some p→t a=some p) : ∀(x:Ins) (ls:List Nat) (n:Nat) (d:Bool) (c:Nat),Rv (mU V ls x n d c) (mU {V with ty:=t} ls x n d c)
 |.mk op r a b nn tags l e,ls,n,d,c=>by
  simp only[mU]
  by_cases o0:op=0
  · rw[if_pos o0,if_pos o0];exact .inl rfl
  rw[if_neg o0,if_neg o0]
  by_cases Wa:op=2∨op=3
  · rw[if_pos Wa,if_pos Wa]
    rcases oG h l ((if op=3 then 0 else r.toNat)::ls) 0 false c with k | ⟨q,k⟩
    · rw[k]
      exact .inl rfl
    · rw[k]
      exact .inr ⟨q,rfl⟩
  rw[if_neg Wa,if_neg Wa]
  by_cases o4:op=4
  · rw[if_pos o4,if_pos o4]
    refine Qy fun n0=> ?_
    rcases oG h l (r.toNat::ls) 0 false c with k | ⟨q,k⟩
    · rw[k]
      cases eX {V with ty:=t} (r.toNat::ls) l 0 false c with
      |bK e p=>exact .inl rfl
      |ok n1 d1 c1=>
       refine ZG ?_
       rcases oG h e (r.toNat::ls) 0 false c1 with k | ⟨q,k⟩
       · rw[k]
         exact .inl rfl
       · rw[k]
         exact .inr ⟨q,rfl⟩
    · rw[k]
      exact .inr ⟨q,rfl⟩
  · rw[if_neg o4,if_neg o4]
    exact LB h ls op a tags n d c
theorem oG {V:kg} {t:Int→Option (Nat×Nat)} (h : ∀a p,V.ty a=some p→t a=some p) : ∀(l:List Ins) (ls:List Nat) (n:Nat) (d:Bool) (c:Nat),Rv (eX V ls l n d c) (eX {V with ty:=t} ls l n d c)
 |[],ls,n,d,c=> .inl (by simp only[eX])
 |x::r,ls,n,d,c=>by
  simp only[eX]
  rcases LC h x ls n d (c+1) with k | ⟨q,k⟩
  · rw[k]
    cases mU {V with ty:=t} ls x n d (c+1) with
    |bK e p=>exact .inl rfl
    |ok n1 d1 c1=>exact oG h r ls n1 d1 c1
  · rw[k]
    exact .inr ⟨q,rfl⟩
end
end Go.Proofs.YtjfgfhaoeicpdaaGreatDoor.N
end
section
namespace Go.Am
open Go.RowKit
section
variable {P:Program} {E:Env} {g:Gh} {m:Mem} {w:World}
theorem Rel.UI (h:Rel g m w) {i:Nat} {l l':List AV} (hb:m[i]? = some (.ac l)) (hl : ∀vs,cA g w l vs→cA g w l' vs) :
  Rel g (m.set i (.ac l')) w∧dc g m w g (m.set i (.ac l')) w:=by
 have own : ∀(j:Nat) (x:aU),(m.set i (.ac l'))[j]? = some x→x.dz=true → ∃y:aU,m[j]? = some y∧y.dz=true:=fun j x hj ho=>by
  rcases aP hj with⟨rfl,_⟩ | ⟨_,q⟩
  · exact⟨_,hb,rfl⟩
  · exact⟨x,q,ho⟩
 refine⟨⟨fun j hj=>h.vJ j (by simpa using hj),fun j hj=> ?_,fun j x cs hj hx=> ?_,fun j c hj hc=> ?_,fun j q x x' c hj hq ho ho' hc fm=> ?_,h.there,fun j k1 l1 hj=> ?_⟩,
  ⟨bj _,fun _ _ _=>rfl,fun _ _ p=>⟨p,rfl⟩,fun _ _ p=> .inl p,fun c ho=> ?_,rfl,rfl,rfl⟩⟩
 · rcases aP hj with⟨_,q⟩ | ⟨_,q⟩
   · cases q
   · exact h.free j q
 · rcases aP hj with⟨rfl,rfl⟩ | ⟨_,q⟩
   · simp only[aU.cells?,cp] at hx
     subst hx
     obtain⟨c',cs',e,q,k1,k2,k3,k4,k5⟩:=h.cells _ _ _ hb rfl
     exact⟨c',cs',e,q,k1,k2,k3,⟨hl _ k4.1,k4.2⟩,k5⟩
   · exact h.cells j x cs q hx
 · rcases aP hj with⟨_,q⟩ | ⟨_,q⟩
   · cases q
   · exact h.tok j c q hc
 · obtain⟨y,y1,y2⟩:=own j x hj ho
   obtain⟨z,z1,z2⟩:=own q x' hq ho'
   exact h.inj j q y z c y1 z1 y2 z2 hc fm
 · rcases aP hj with⟨_,q⟩ | ⟨_,q⟩
   · cases q
   · exact h.obs j k1 l1 q
 · obtain⟨j,x,hj,hx,hc⟩:=ho
   obtain⟨y,y1,y2⟩:=own j x hj hx
   exact .inl ⟨j,y,y1,y2,hc⟩
theorem an.kill {f:FuncId} {args:List AV} {m m':Mem} {v:AV} (h:an P E f args m v m') (i:Nat):an P E f args m v (m'.set i .dead):=by
 obtain⟨hf,h⟩:=h
 refine⟨hf,fun g w cJ cs hr hv hg=> ?_⟩
 obtain⟨w',g',cv,fr,h1,h2,h3,h4,h5,h6,h7,h8⟩:=h g w cJ cs hr hv hg
 obtain⟨k1,k2⟩:=h5.kill i
 exact⟨w',g',cv,fr,h1,h2,h3,h4,k1,h6.trans k2,h7,by simpa using h8⟩
theorem an.settle {f:FuncId} {args l0 X:List AV} {m:Mem} {v:AV} {t:TypeId} {q:Bool} (h:an P E f args m v [.ac l0,.ob (.gr t q) X]) (hm:m.length≤2) :
  an P E f args m v [.ac (eR (AT 2) l0),.dead,.ob (.gr t q) X]:=by
 obtain⟨hf,h⟩:=h
 refine⟨hf,fun g0 w0 cJ cs hr hv hg=> ?_⟩
 obtain⟨w,g,cv,fr,h1,h2,h3,h4,Gp,h6,h7,h8⟩:=h g0 w0 cJ cs hr hv hg
 obtain⟨f1,f2⟩:=Gp.cV 1
 have hb:(([.ac l0,.ob (.gr t q) X]:Mem)++cV 1)[1]? = some (.ob (.gr t q) X):=rfl
 obtain⟨c1,o1,vs1,b1,b2,b3,b4,b5,b6⟩:=f1.obs 1 _ _ hb
 have hn:(([.ac l0,.ob (.gr t q) X]:Mem)++cV 1)[2]? = some .free:=rfl
 obtain⟨m1,m2,m3⟩:=f1.move hb b1 hn
 have hb0:(((([.ac l0,.ob (.gr t q) X]:Mem)++cV 1).set 1 .dead).set 2 (.ob (.gr t q) X))[0]? = some (.ac l0):=rfl
 have hre:dA (AT 2) (g.put 2 c1 (g.lo 1) (g.hi 1)) (g.put 2 c1 (g.lo 1) (g.hi 1)):=⟨fun i k hk=>by
  unfold AT at hk
  cases hi:ae i 1 with
  |true=>
   rw[hi] at hk
   obtain rfl:=c8 hk
   obtain rfl:=Nat.eq_of_beq_eq_true hi
   simp[Gh.put,b1]
  |false=>
   rw[hi] at hk
   obtain rfl:=c8 hk
   exact⟨rfl,rfl,rfl⟩,rfl⟩
 obtain⟨n1,n2⟩:=m1.UI hb0 (l':=eR (AT 2) l0) fun vs hv=>hv.jk hre
 have hmem:((((([.ac l0,.ob (.gr t q) X]:Mem)++cV 1).set 1 .dead).set 2 (.ob (.gr t q) X)).set 0 (.ac (eR (AT 2) l0)))=[.ac (eR (AT 2) l0),.dead,.ob (.gr t q) X]:=rfl
 rw[hmem] at n1 n2
 refine⟨w,_,cv,fr,h1,h2,h3,h4.mono m2,n1,h6.trans ((f2.trans m3).trans n2),h7.trans fun k c' hk fm=> ?_,by simp;omega⟩
 have h1:k≠2:=by omega
 simp[Gh.put,h1,fm]
end
end Go.Am
end
section
namespace Go.Proofs.YtjfgfhaoeicpdaaGreatDoor.N
open Go Go.Am
structure Md where
 mZ:Nat
 tJ:List PV
 uZ:Nat
 CZ:List PV
 vT:Nat
 tK:List PV
 sy:Nat
 C0:List PV
 tN:Nat
 C1:List PV
 jB:Nat
 yY:List PV
 C2:Nat
 C3:List PV
 st:Bool
 sn:Int
 C4:Nat
 C5:List PV
 C6:Nat
 C7:List PV
abbrev Md.cells (M:Md):List AV:=[.p (.ps M.mZ 2 M.tJ),.p (.ps M.uZ 3 M.CZ),.p (.ps M.vT 3 M.tK),.p (.ps M.sy 3 M.C0),.p (.ps M.tN 3 M.C1),.p (.ps M.jB 2 M.yY),.p (.ps M.C2 3 M.C3),sB M.st,sI .u32 M.sn,.p (.ps M.C4 2 M.C5),.p (.ps M.C6 2 M.C7)]
def qo (M:Md):List AV:=M.cells
abbrev bf (M:Md) (tP tR own h:Int) (j n:Nat) (e p nx:Int):aU:= .ac (M.cells++[sI .i64 tP,sI .i64 tR,sI .u64 own,sI .i64 h,.ms j 0 n 4 none,sI .i64 e,sI .i64 p,sI .i64 nx])
abbrev dj (cs:List PV):aU:= .ob (.gr 185 true) (cs.map .p)
abbrev frC (op base res:Int) (dead:Bool):List PV:=[.sc (.int .i64 op),.sc (.int .i64 base),.sc (.int .i64 res),.sc (.bool dead)]
@[simp] theorem aF (l:List PV):abG aa (abG AV.p l)=abG AV.p l:=by
  rw[afz];rfl
def Qz (l:List (Nat×Nat×AV)) (f d:Nat):Option AV:=match l with
 |[]=>none
 |(f',d',v)::r=>cond (ae f f'&&ae d d') (some v) (Qz r f d)
def va (rows:List (Nat×Nat×AV)):Env where
 cQ:=pF tabs
 wr:=wrs
 keep:=xT keeps
 told:=Qz rows
theorem an.gK {rows:List (Nat×Nat×AV)} {f:FuncId} {args:List AV} {m m':Mem} {v:AV} (h:an ab5 (va rows) f args m v m'):an ab5 env f args m v m':=h.env fun _ _ q=>q
set_option linter.unusedSimpArgs false
structure Fr where
 op:Int
 base:Int
 res:Int
 dead:Bool
def aT:List Fr→List PV
 |[]=>[]
 |f::r=>frC f.op f.base f.res f.dead++aT r
theorem gW : ∀l:List Fr,(aT l).length=l.length*4
 |[]=>rfl
 |f::r=>by simp[aT,gW r];omega
theorem mI : ∀l m:List Fr,aT (l++m)=aT l++aT m
 |[],_=>rfl
 |f::r,m=>by simp[aT,mI r m]
theorem rT : ∀{l:List Fr} {k:Nat} {f:Fr},l[k]? = some f → ∀(ex:List PV) (c:Nat),c<4→(abG AV.p (aT l++ex)).getD (k*4+c) .aj=(abG AV.p (frC f.op f.base f.res f.dead)).getD c .aj
 |[],_,_,h,_,_,_=>by simp at h
 |y::l,0,x,h,ex,c,hc=>by
  simp only[List.getElem?_cons_zero,cp] at h;subst h
  rw[aT,afx,pj,vz,abm,cb,cb,List.getElem?_append_left (by simpa using hc)]
 |y::l,k+1,x,h,ex,c,hc=>by
  have ih:=rT (l:=l) (k:=k) (f:=x) (by simpa using h) ex c hc
  rw[cb] at ih
  rw[aT,vz,abm,cb,List.getElem?_append_right (by simp;omega),show(k+1)*4+c-(abG AV.p (frC y.op y.base y.res y.dead)).length=k*4+c by simp;omega]
  exact ih
theorem rU {l:List Fr} {k:Nat} {f:Fr} (h:l[k]? = some f) (ex:List PV) :
  (abG AV.p (aT l++ex)).getD (k*4) .aj=sI .i64 f.op∧(abG AV.p (aT l++ex)).getD (k*4+1) .aj=sI .i64 f.base ∧
  (abG AV.p (aT l++ex)).getD (k*4+2) .aj=sI .i64 f.res∧(abG AV.p (aT l++ex)).getD (k*4+3) .aj=sB f.dead:=
 ⟨rT h ex 0 (by omega),rT h ex 1 (by omega),rT h ex 2 (by omega),rT h ex 3 (by omega)⟩
def yZ (h:Int):Int→List Fr→Prop
 |_,[]=>True
 |b,f::r=>(f.op=2∨f.op=3∨f.op=4∨f.op=5)∧b≤f.base∧f.base≤h∧0≤f.res∧f.res≤1∧yZ h f.base r
def fO (h:Int):List Fr→Prop
 |[]=>False
 |f::r=>f.op=0∧f.base=0∧0≤f.res∧f.res≤1∧yZ h 0 r∧0≤h∧h≤1073741824∧r.length+1≤1000
def ahh (f:FuncId) (_:List AV) (m:Mem):Option (AV×Mem):=cond (ae f 148) (some (sB true,m)) none
def ahi (_h _b:Int) (_n i:Nat) (_cs:List PV) (op base res:Int) (dead:Bool):FuncId→Nat→Nat→Option (AV→AV):=cL [(138,7,2,.agg [sI .i64 op,sI .i64 base,sI .i64 res,sB dead]),(138,12,0,sI .i64 ((i+1:Nat):Int))]
def ZH:bD:=aQ aI av [] [] [(139,4,2)]
def adM:Sc:= .fin
def Js (k:Nat) (cs:List PV):aC:=
 (.must (qw (abT ((k+1)*4) (afA 0 (abG AV.p cs)))&&(0+(k+1)*4).ble (abG AV.p cs).length&&(((0+(k+1))*32).ble ef&&(0+(k+1)).ble ef)&&true&&true)
 (.out (.ret (.ms 1 0 (0+(k+1)) 4 none) [.ob (aG.gr 185 true) (abG aa (abG AV.p cs)),.ob (aG.gr 185 true) (abG aa ([]++abG AV.p (abG mO (abT ((k+1)*4) (afA 0 (abG AV.p cs))))))])))
theorem QA (k:Nat) (cs:List PV):aH ab5 env ZH 1000000 139 ([AV.ms 0 0 (k+1) 4 acb]) ([dj cs]) adM=Js k cs:=by kernel_rfl
def ZI:bD:=aQ aI av [(138,1)] [(138,2,4),(138,2,9),(138,2,15),(138,0,0)] []
def adN:Sc:=(.fork (.lit (.lit (.lit .fin))) (.fork (.lit (.lit .fin)) (.fork (.lit .fin) .fin)))
def lG (cs:List PV):aC:=
 (.out (.ret (sI .i64 2) [.ob (aG.gr 185 true) (abG aa (abG AV.p cs))]))
def Jt (h:Int) (n:Nat) (cs:List PV):aC:=
 (.test (decide (h<0))
 (lG cs)
 (.test (decide (h>1073741824))
 (lG cs)
 (.test (decide ((↑n:Int)<1))
 (lG cs)
 (.test (decide ((↑n:Int)>1000))
 (lG cs)
 (.at (ak ab5 env 138 1 [.mp 1 0,sI .i64 0,.ms 0 0 n 4 none,sI .i64 (↑n:Int),sI .i64 0] ([.ob (aG.gr 185 true) (abG aa (abG AV.p cs)),.ac [sI .i64 h,.ms 0 0 n 4 none]]) 1 85))))))
theorem QB (h:Int) (n:Nat) (cs:List PV):aH ab5 env ZI 1000000 138 ([AV.agg [sI rn h,AV.ms 0 0 n 4 acb]]) ([dj cs]) adN=Jt h n cs:=by kernel_rfl
def ZJ (h b:Int) (n:Nat) (i:Nat) (cs:List PV) (op base res:Int) (dead:Bool):bD:=fy ahh av [(138,1)] [(138,0,2),(138,8,3),(138,8,8),(138,9,3),(138,9,6),(138,9,19),(138,9,26),(138,9,31),(138,0,3)] [(138,7,1),(138,7,2)] (ahi h b n i cs op base res dead)
def adO:Sc:=(.fork (.fork (.fork (.fork (.yes (.lit (.lit (.lit (.lit .fin))))) (.fork (.lit (.lit (.lit .fin))) (.fork (.lit (.lit .fin)) (.fork (.lit .fin) .fin)))) (.lit (.yes (.lit (.lit (.lit (.lit .fin))))))) (.lit (.lit (.no (.fork (.lit (.lit (.lit .fin))) (.fork (.lit (.lit .fin)) (.fork (.lit .fin) .fin))))))) .fin)
def lH (h b:Int) (n:Nat) (i:Nat) (cs:List PV) (base res:Int):aC:=
 (.test (decide (base<b)) (.out (.ret (sI .i64 2) [.ob (aG.gr 185 true) (abG aa (abG AV.p cs))])) (.test (decide (base>h)) (.out (.ret (sI .i64 2) [.ob (aG.gr 185 true) (abG aa (abG AV.p cs))])) (.test (decide (res<0)) (.out (.ret (sI .i64 2) [.ob (aG.gr 185 true) (abG aa (abG AV.p cs))])) (.test (decide (res>1)) (.out (.ret (sI .i64 2) [.ob (aG.gr 185 true) (abG aa (abG AV.p cs))])) (.need (sI .i64 (rn.wrap ((↑i:Int)+1))=sI rn (↑(i+1):Int)) (.at (ak ab5 env 138 1 [.mp 1 0,sI .i64 base,.ms 0 0 n 4 none,sI .i64 (↑n:Int),sI .i64 (↑(i+1):Int)] ([.ob (aG.gr 185 true) (abG aa (abG AV.p cs)),.ac [sI .i64 h,.ms 0 0 n 4 none]]) 1 85)))))))
def vU (h b:Int) (n:Nat) (i:Nat) (cs:List PV) (op base res:Int) (dead:Bool):aC:=
 (.test (decide ((↑i:Int)<(↑n:Int)))
 (.must (bp (↑i:Int) n&&true&&true)
 (.must ((0+(aK i)*4+4).ble (abG AV.p cs).length&&((bC (some (aca (afE rn) "int" 1 8 false 8 8 (some (.int .i64 0)) true #[]).desc) ((abG AV.p cs).getD (0+(aK i)*4) .aj)).snd&&((bC (some (aca (afE rn) "int" 1 8 false 8 8 (some (.int .i64 0)) true #[]).desc) ((abG AV.p cs).getD (0+(aK i)*4+1) .aj)).snd&&((bC (some (aca (afE rn) "int" 1 8 false 8 8 (some (.int .i64 0)) true #[]).desc) ((abG AV.p cs).getD (0+(aK i)*4+1+1) .aj)).snd&&((bC (some (aca afM "bool" 1 1 false 1 1 (some (.bool false)) true #[]).desc) ((abG AV.p cs).getD (0+(aK i)*4+1+1+1) .aj)).snd&&true))))&&true)
 (.need (AV.agg [(bC (acx (aca (afE rn) "int" 1 8 false 8 8 (acx (sd rn 0)) true #[]).desc) ((abG AV.p cs).getD (0+(aK i)*4) AV.aj)).fst,(bC (acx (aca (afE rn) "int" 1 8 false 8 8 (acx (sd rn 0)) true #[]).desc) ((abG AV.p cs).getD (0+(aK i)*4+1) AV.aj)).fst,(bC (acx (aca (afE rn) "int" 1 8 false 8 8 (acx (sd rn 0)) true #[]).desc) ((abG AV.p cs).getD (0+(aK i)*4+1+1) AV.aj)).fst,(bC (acx (aca afM "bool" 1 1 false 1 1 (acx (Value.bool false)) true #[]).desc) ((abG AV.p cs).getD (0+(aK i)*4+1+1+1) AV.aj)).fst]=AV.agg [sI rn op,sI rn base,sI rn res,sB dead])
 (.test ((↑i:Int)==0)
 (.test (op==0)
 (.test (!base==0)
 (.must ((↑i:Int)==0)
 (.out (.ret (sI .i64 2) [.ob (aG.gr 185 true) (abG aa (abG AV.p cs))])))
 (lH h b n i cs base res))
 (.must ((↑i:Int)==0)
 (.out (.ret (sI .i64 2) [.ob (aG.gr 185 true) (abG aa (abG AV.p cs))]))))
 (.must (!((↑i:Int)==0))
 (.call ⟨148,[sI .i64 op],[],sB true,[]⟩
 (lH h b n i cs base res)))))))
 (.out (.ret (sI .i64 0) [.ob (aG.gr 185 true) (abG aa (abG AV.p cs))])))
theorem za (h b:Int) (n:Nat) (i:Nat) (cs:List PV) (op base res:Int) (dead:Bool):grow ab5 env (ZJ h b n i cs op base res dead) 1000000 true (ak ab5 env 138 1 ([AV.mp 1 0,sI rn b,AV.ms 0 0 n 4 acb,sI rn (↑n:Int),sI rn (↑i:Int)]) ([dj cs,aU.ac [sI rn h,AV.ms 0 0 n 4 acb]]) 1 85) adO atEnd=vU h b n i cs op base res dead:=by kernel_rfl
theorem Bq {op:Int} (h:op=2∨op=3∨op=4∨op=5):an ab5 env 148 [sI .i64 op] [] (sB true) []:=by
 rcases h with rfl | rfl | rfl | rfl
 · exact bG aM eZ (n:=1000) (by kernel_rfl)
 · exact bG aM eZ (n:=1000) (by kernel_rfl)
 · exact bG aM eZ (n:=1000) (by kernel_rfl)
 · exact bG aM eZ (n:=1000) (by kernel_rfl)
@[simp] theorem ZK (l:List PV):abG mO (abG AV.p l)=l:=by
  rw[afz]
  exact List.map_id' _
theorem nh : ∀l:List PV,qw (abG AV.p l)=true
 |[]=>rfl
 |_::l=>nh l
theorem Hl (k:Nat) (hk:k≤1000) (cs:List PV) (hc:(k+1)*4≤cs.length) :
  an ab5 env 139 [.ms 0 0 (k+1) 4 none] [dj cs] (.ms 1 0 (k+1) 4 none) [dj cs,dj (cs.take ((k+1)*4))]:=by
 refine af aM (QA k cs) ?_
 have hl:ef=70368744177664:=rfl
 simp only[Js,aC.ok,List.drop_zero,pj,aF,ZK,List.nil_append,←List.map_take,nh,ae2,mf,aeU,ch,aeT]
 exact⟨⟨hc,by omega,by omega⟩,trivial⟩
theorem ik:(rn==rn)=true:=rfl
set_option maxHeartbeats 1000000 in
theorem QC (h:Int) (fs:List Fr) (ex:List PV) (hn:fs.length≤1000) : ∀(r i:Nat) (b:Int),i+r=fs.length→1≤i→yZ h b (fs.drop i) →
  bR ab5 env (ak ab5 env 138 1 [.mp 1 0,sI .i64 b,.ms 0 0 fs.length 4 none,sI .i64 fs.length,sI .i64 i] [dj (aT fs++ex),.ac [sI .i64 h,.ms 0 0 fs.length 4 none]] 1 85) (.ret (sI .i64 0) [dj (aT fs++ex)]):=by
 intro r
 induction r with
 |zero=>
  intro i b hi h1 hok
  refine ah aM (za h b fs.length i (aT fs++ex) 0 0 0 true) ?_
  simp only[vU,lH,bN,aC.ok]
  refine⟨fun q=> ?_,fun _=>by rw[aF]⟩
  simp only[decide_eq_true_eq] at q
  omega
 |succ r ih=>
  intro i b hi h1 hok
  have Au:i<fs.length:=by omega
  have hg:fs[i]? = some fs[i]:=bm Au
  rw[List.drop_eq_getElem_cons Au] at hok
  generalize fs[i]=f at *
  obtain⟨o1,o2,o3,o4,o5,o6⟩:=hok
  obtain⟨c0,c1,c2,c3⟩:=rU hg ex
  have ih:=ih (i+1) f.base (by omega) (by omega) o6
  have w1:rn.wrap ((i:Int)+1)=((i+1:Nat):Int):=by rw[aO (by omega) (by omega)];rfl
  have hlen:(aT fs++ex).length=fs.length*4+ex.length:=by rw[de,gW]
  refine ah aM (za h b fs.length i (aT fs++ex) f.op f.base f.res f.dead) ?_
  simp only[vU,lH,bN,aC.ok,aep,pj,c0,c1,c2,c3,bC,gD,isInt,isBool,az,bu,aF,w1,mf,hlen]
  have nz:((i:Int)==0)=false:=by simp;omega
  have d1:decide (f.base<b)=false:=by simp;omega
  have d2:decide (f.base>h)=false:=by simp;omega
  have d3:decide (f.res<0)=false:=by simp;omega
  have d4:decide (f.res>1)=false:=by simp;omega
  have hb:decide ((i:Int)<(fs.length:Int))=true:=by simp only[decide_eq_true_eq];omega
  simp only[nz,d1,d2,d3,d4,hb,ik,bp,Bool.not_false,oE,afn,false_implies,true_implies,and_true,true_and,aeU,ae2,aeT,ch,decide_eq_true_eq]
  exact⟨by omega,by omega,Bq o1,ih⟩
set_option maxHeartbeats 1000000 in
theorem E8 (h:Int) (fs:List Fr) (ex:List PV) (hok:fO h fs) :
  an ab5 env 138 [.agg [sI .i64 h,.ms 0 0 fs.length 4 none]] [dj (aT fs++ex)] (sI .i64 0) [dj (aT fs++ex)]:=by
 cases fs with
 |nil=>exact hok.elim
 |cons f r=>
  obtain⟨o1,o2,o3,o4,o5,o6,o7,o8⟩:=hok
  have loop:=QC h (f::r) ex (by simpa using o8) r.length 1 f.base (by simp;omega) (by omega) (by rw[o2];exact o5)
  have hg:(f::r)[0]? = some f:=rfl
  obtain⟨c0,c1,c2,c3⟩:=rU hg ex
  have hlen:(aT (f::r)++ex).length=(f::r).length*4+ex.length:=by rw[de,gW]
  have MV:(f::r).length=r.length+1:=rfl
  refine af aM (QB h (f::r).length (aT (f::r)++ex)) ?_
  simp only[Jt,lG,aC.ok,aF]
  have e1:decide (h<0)=false:=by simp;omega
  have e2:decide (h>1073741824)=false:=by simp;omega
  have e3:decide (((f::r).length:Int)<1)=false:=by simp;omega
  have e4:decide (((f::r).length:Int)>1000)=false:=by simp;omega
  simp only[e1,e2,e3,e4]
  refine⟨(fun q=>by cases q),fun _=>⟨(fun q=>by cases q),fun _=>⟨(fun q=>by cases q),fun _=>⟨(fun q=>by cases q),fun _=> ?_⟩⟩⟩⟩
  have tr:=za h 0 (f::r).length 0 (aT (f::r)++ex) f.op f.base f.res f.dead
  refine ah aM tr ?_
  simp only[vU,lH,bN,aC.ok,aep,pj,afx,bC,gD,isInt,isBool,az,bu,aF,mf,hlen]
  simp only[afx,pj] at c0 c1 c2 c3
  have d1:decide (f.base<0)=false:=by simp;omega
  have d2:decide (f.base>h)=false:=by simp;omega
  have d3:decide (f.res<0)=false:=by simp;omega
  have d4:decide (f.res>1)=false:=by simp;omega
  have d5:(!f.base==0)=false:=by simp[o2]
  have d6:(f.op==0)=true:=by simp[o1]
  have d7:decide (((0:Nat):Int)<((f::r).length:Int))=true:=by simp only[decide_eq_true_eq];omega
  have d8:(((0:Nat):Int)==0)=true:=rfl
  simp only[c0,c1,c2,c3,d1,d2,d3,d4,d5,d6,d7,d8,ik,bp,Bool.not_true,oE,afn,false_implies,true_implies,and_true,true_and,aeU,ae2,aeT,ch,decide_eq_true_eq]
  exact⟨by omega,by omega,rfl,loop⟩
end Go.Proofs.YtjfgfhaoeicpdaaGreatDoor.N
end
