/-
awake, run.
gimletkit.CopyInstrs: what is told is what it was.
gimletkit.SameWasm: a module is the same as itself.
How many instructions there are: what the laws' kit tells.
-/
import Derived.Test.YtddfgnmjecogdaaDoorMH
import Derived.Test.YtddfgnmjecogdaaDoorMJ
section
namespace Go.Proofs.YtddfgnmjecogdaaDoor.N
open Go Go.Am
def oz:Env where
 ct:=qE tabs
 wr f d:=(Nat.beq f 72&&Nat.beq d 9)||(Nat.beq f 27&&(Nat.beq d 10||Nat.beq d 67||Nat.beq d 84||Nat.beq d 197||Nat.beq d 164||Nat.beq d 176))
 keep _ _:=none
def AR:bA:=⟨82,[.p (.sc (.string ⟨#[101,113,122,32,101,113,32,110,101,32,108,116,95,115,32,108,116,95,117,32,103,116,95,115,32,103,116,95,117,32,108,101,95,115,32,108,101,95,117,32,103,101,95,115,32,103,101,95,117]⟩))],[],.p (.ps 11 1 [.sc (.string ⟨#[101,113,122]⟩),.sc (.string ⟨#[101,113]⟩),.sc (.string ⟨#[110,101]⟩),.sc (.string ⟨#[108,116,95,115]⟩),.sc (.string ⟨#[108,116,95,117]⟩),.sc (.string ⟨#[103,116,95,115]⟩),.sc (.string ⟨#[103,116,95,117]⟩),.sc (.string ⟨#[108,101,95,115]⟩),.sc (.string ⟨#[108,101,95,117]⟩),.sc (.string ⟨#[103,101,95,115]⟩),.sc (.string ⟨#[103,101,95,117]⟩)]),[]⟩
theorem K1:aB Tryd.prog oz AR.g AR.args AR.m AR.v AR.m':=cX names (K:=[]) hY (n:=10000000) (by kernel_rfl)
def GZ:List bA:=AR::[]
theorem C4:dK Tryd.prog oz GZ:=ej K1 hY
def AS:bA:=⟨82,[.p (.sc (.string ⟨#[99,108,122,32,99,116,122,32,112,111,112,99,110,116,32,97,100,100,32,115,117,98,32,109,117,108,32,100,105,118,95,115,32,100,105,118,95,117,32,114,101,109,95,115,32,114,101,109,95,117,32,97,110,100,32,111,114,32,120,111,114,32,115,104,108,32,115,104,114,95,115,32,115,104,114,95,117,32,114,111,116,108,32,114,111,116,114]⟩))],[],.p (.ps 18 1 [.sc (.string ⟨#[99,108,122]⟩),.sc (.string ⟨#[99,116,122]⟩),.sc (.string ⟨#[112,111,112,99,110,116]⟩),.sc (.string ⟨#[97,100,100]⟩),.sc (.string ⟨#[115,117,98]⟩),.sc (.string ⟨#[109,117,108]⟩),.sc (.string ⟨#[100,105,118,95,115]⟩),.sc (.string ⟨#[100,105,118,95,117]⟩),.sc (.string ⟨#[114,101,109,95,115]⟩),.sc (.string ⟨#[114,101,109,95,117]⟩),.sc (.string ⟨#[97,110,100]⟩),.sc (.string ⟨#[111,114]⟩),.sc (.string ⟨#[120,111,114]⟩),.sc (.string ⟨#[115,104,108]⟩),.sc (.string ⟨#[115,104,114,95,115]⟩),.sc (.string ⟨#[115,104,114,95,117]⟩),.sc (.string ⟨#[114,111,116,108]⟩),.sc (.string ⟨#[114,111,116,114]⟩)]),[]⟩
theorem K2:aB Tryd.prog oz AS.g AS.args AS.m AS.v AS.m':=cX names (K:=GZ) C4 (n:=10000000) (by kernel_rfl)
def G0:List bA:=AS::GZ
theorem C5:dK Tryd.prog oz G0:=ej K2 C4
def AT:bA:=⟨63,[],[],.agg [.p (.sc (.string ⟨#[117,110,114,101,97,99,104,97,98,108,101]⟩)),.p (.sc (.string ⟨#[110,111,112]⟩)),.p (.sc (.string ⟨#[98,108,111,99,107]⟩)),.p (.sc (.string ⟨#[108,111,111,112]⟩)),.p (.sc (.string ⟨#[105,102]⟩)),.p (.sc (.string ⟨#[]⟩)),.p (.sc (.string ⟨#[]⟩)),.p (.sc (.string ⟨#[]⟩)),.p (.sc (.string ⟨#[]⟩)),.p (.sc (.string ⟨#[]⟩)),.p (.sc (.string ⟨#[]⟩)),.p (.sc (.string ⟨#[]⟩)),.p (.sc (.string ⟨#[98,114]⟩)),.p (.sc (.string ⟨#[98,114,95,105,102]⟩)),.p (.sc (.string ⟨#[98,114,95,116,97,98,108,101]⟩)),.p (.sc (.string ⟨#[114,101,116,117,114,110]⟩)),.p (.sc (.string ⟨#[99,97,108,108]⟩)),.p (.sc (.string ⟨#[99,97,108,108,95,105,110,100,105,114,101,99,116]⟩)),.p (.sc (.string ⟨#[]⟩)),.p (.sc (.string ⟨#[]⟩)),.p (.sc (.string ⟨#[]⟩)),.p (.sc (.string ⟨#[]⟩)),.p (.sc (.string ⟨#[]⟩)),.p (.sc (.string ⟨#[]⟩)),.p (.sc (.string ⟨#[]⟩)),.p (.sc (.string ⟨#[]⟩)),.p (.sc (.string ⟨#[100,114,111,112]⟩)),.p (.sc (.string ⟨#[115,101,108,101,99,116]⟩)),.p (.sc (.string ⟨#[]⟩)),.p (.sc (.string ⟨#[]⟩)),.p (.sc (.string ⟨#[]⟩)),.p (.sc (.string ⟨#[]⟩)),.p (.sc (.string ⟨#[108,111,99,97,108,46,103,101,116]⟩)),.p (.sc (.string ⟨#[108,111,99,97,108,46,115,101,116]⟩)),.p (.sc (.string ⟨#[108,111,99,97,108,46,116,101,101]⟩)),.p (.sc (.string ⟨#[103,108,111,98,97,108,46,103,101,116]⟩)),.p (.sc (.string ⟨#[103,108,111,98,97,108,46,115,101,116]⟩)),.p (.sc (.string ⟨#[]⟩)),.p (.sc (.string ⟨#[]⟩)),.p (.sc (.string ⟨#[]⟩)),.p (.sc (.string ⟨#[105,51,50,46,108,111,97,100]⟩)),.p (.sc (.string ⟨#[]⟩)),.p (.sc (.string ⟨#[]⟩)),.p (.sc (.string ⟨#[]⟩)),.p (.sc (.string ⟨#[105,51,50,46,108,111,97,100,56,95,115]⟩)),.p (.sc (.string ⟨#[105,51,50,46,108,111,97,100,56,95,117]⟩)),.p (.sc (.string ⟨#[105,51,50,46,108,111,97,100,49,54,95,115]⟩)),.p (.sc (.string ⟨#[105,51,50,46,108,111,97,100,49,54,95,117]⟩)),.p (.sc (.string ⟨#[]⟩)),.p (.sc (.string ⟨#[]⟩)),.p (.sc (.string ⟨#[]⟩)),.p (.sc (.string ⟨#[]⟩)),.p (.sc (.string ⟨#[]⟩)),.p (.sc (.string ⟨#[]⟩)),.p (.sc (.string ⟨#[105,51,50,46,115,116,111,114,101]⟩)),.p (.sc (.string ⟨#[]⟩)),.p (.sc (.string ⟨#[]⟩)),.p (.sc (.string ⟨#[]⟩)),.p (.sc (.string ⟨#[105,51,50,46,115,116,111,114,101,56]⟩)),.p (.sc (.string ⟨#[105,51,50,46,115,116,111,114,101,49,54]⟩)),.p (.sc (.string ⟨#[]⟩)),.p (.sc (.string ⟨#[]⟩)),.p (.sc (.string ⟨#[]⟩)),.p (.sc (.string ⟨#[109,101,109,111,114,121,46,115,105,122,101]⟩)),.p (.sc (.string ⟨#[109,101,109,111,114,121,46,103,114,111,119]⟩)),.p (.sc (.string ⟨#[105,51,50,46,99,111,110,115,116]⟩)),.p (.sc (.string ⟨#[]⟩)),.p (.sc (.string ⟨#[]⟩)),.p (.sc (.string ⟨#[]⟩)),.p (.sc (.string ⟨#[105,51,50,46,101,113,122]⟩)),.p (.sc (.string ⟨#[105,51,50,46,101,113]⟩)),.p (.sc (.string ⟨#[105,51,50,46,110,101]⟩)),.p (.sc (.string ⟨#[105,51,50,46,108,116,95,115]⟩)),.p (.sc (.string ⟨#[105,51,50,46,108,116,95,117]⟩)),.p (.sc (.string ⟨#[105,51,50,46,103,116,95,115]⟩)),.p (.sc (.string ⟨#[105,51,50,46,103,116,95,117]⟩)),.p (.sc (.string ⟨#[105,51,50,46,108,101,95,115]⟩)),.p (.sc (.string ⟨#[105,51,50,46,108,101,95,117]⟩)),.p (.sc (.string ⟨#[105,51,50,46,103,101,95,115]⟩)),.p (.sc (.string ⟨#[105,51,50,46,103,101,95,117]⟩)),.p (.sc (.string ⟨#[]⟩)),.p (.sc (.string ⟨#[]⟩)),.p (.sc (.string ⟨#[]⟩)),.p (.sc (.string ⟨#[]⟩)),.p (.sc (.string ⟨#[]⟩)),.p (.sc (.string ⟨#[]⟩)),.p (.sc (.string ⟨#[]⟩)),.p (.sc (.string ⟨#[]⟩)),.p (.sc (.string ⟨#[]⟩)),.p (.sc (.string ⟨#[]⟩)),.p (.sc (.string ⟨#[]⟩)),.p (.sc (.string ⟨#[]⟩)),.p (.sc (.string ⟨#[]⟩)),.p (.sc (.string ⟨#[]⟩)),.p (.sc (.string ⟨#[]⟩)),.p (.sc (.string ⟨#[]⟩)),.p (.sc (.string ⟨#[]⟩)),.p (.sc (.string ⟨#[]⟩)),.p (.sc (.string ⟨#[]⟩)),.p (.sc (.string ⟨#[]⟩)),.p (.sc (.string ⟨#[]⟩)),.p (.sc (.string ⟨#[]⟩)),.p (.sc (.string ⟨#[]⟩)),.p (.sc (.string ⟨#[105,51,50,46,99,108,122]⟩)),.p (.sc (.string ⟨#[105,51,50,46,99,116,122]⟩)),.p (.sc (.string ⟨#[105,51,50,46,112,111,112,99,110,116]⟩)),.p (.sc (.string ⟨#[105,51,50,46,97,100,100]⟩)),.p (.sc (.string ⟨#[105,51,50,46,115,117,98]⟩)),.p (.sc (.string ⟨#[105,51,50,46,109,117,108]⟩)),.p (.sc (.string ⟨#[105,51,50,46,100,105,118,95,115]⟩)),.p (.sc (.string ⟨#[105,51,50,46,100,105,118,95,117]⟩)),.p (.sc (.string ⟨#[105,51,50,46,114,101,109,95,115]⟩)),.p (.sc (.string ⟨#[105,51,50,46,114,101,109,95,117]⟩)),.p (.sc (.string ⟨#[105,51,50,46,97,110,100]⟩)),.p (.sc (.string ⟨#[105,51,50,46,111,114]⟩)),.p (.sc (.string ⟨#[105,51,50,46,120,111,114]⟩)),.p (.sc (.string ⟨#[105,51,50,46,115,104,108]⟩)),.p (.sc (.string ⟨#[105,51,50,46,115,104,114,95,115]⟩)),.p (.sc (.string ⟨#[105,51,50,46,115,104,114,95,117]⟩)),.p (.sc (.string ⟨#[105,51,50,46,114,111,116,108]⟩)),.p (.sc (.string ⟨#[105,51,50,46,114,111,116,114]⟩)),.p (.sc (.string ⟨#[]⟩)),.p (.sc (.string ⟨#[]⟩)),.p (.sc (.string ⟨#[]⟩)),.p (.sc (.string ⟨#[]⟩)),.p (.sc (.string ⟨#[]⟩)),.p (.sc (.string ⟨#[]⟩)),.p (.sc (.string ⟨#[]⟩)),.p (.sc (.string ⟨#[]⟩)),.p (.sc (.string ⟨#[]⟩)),.p (.sc (.string ⟨#[]⟩)),.p (.sc (.string ⟨#[]⟩)),.p (.sc (.string ⟨#[]⟩)),.p (.sc (.string ⟨#[]⟩)),.p (.sc (.string ⟨#[]⟩)),.p (.sc (.string ⟨#[]⟩)),.p (.sc (.string ⟨#[]⟩)),.p (.sc (.string ⟨#[]⟩)),.p (.sc (.string ⟨#[]⟩)),.p (.sc (.string ⟨#[]⟩)),.p (.sc (.string ⟨#[]⟩)),.p (.sc (.string ⟨#[]⟩)),.p (.sc (.string ⟨#[]⟩)),.p (.sc (.string ⟨#[]⟩)),.p (.sc (.string ⟨#[]⟩)),.p (.sc (.string ⟨#[]⟩)),.p (.sc (.string ⟨#[]⟩)),.p (.sc (.string ⟨#[]⟩)),.p (.sc (.string ⟨#[]⟩)),.p (.sc (.string ⟨#[]⟩)),.p (.sc (.string ⟨#[]⟩)),.p (.sc (.string ⟨#[]⟩)),.p (.sc (.string ⟨#[]⟩)),.p (.sc (.string ⟨#[]⟩)),.p (.sc (.string ⟨#[]⟩)),.p (.sc (.string ⟨#[]⟩)),.p (.sc (.string ⟨#[]⟩)),.p (.sc (.string ⟨#[]⟩)),.p (.sc (.string ⟨#[]⟩)),.p (.sc (.string ⟨#[]⟩)),.p (.sc (.string ⟨#[]⟩)),.p (.sc (.string ⟨#[]⟩)),.p (.sc (.string ⟨#[]⟩)),.p (.sc (.string ⟨#[]⟩)),.p (.sc (.string ⟨#[]⟩)),.p (.sc (.string ⟨#[]⟩)),.p (.sc (.string ⟨#[]⟩)),.p (.sc (.string ⟨#[]⟩)),.p (.sc (.string ⟨#[]⟩)),.p (.sc (.string ⟨#[]⟩)),.p (.sc (.string ⟨#[]⟩)),.p (.sc (.string ⟨#[]⟩)),.p (.sc (.string ⟨#[]⟩)),.p (.sc (.string ⟨#[]⟩)),.p (.sc (.string ⟨#[]⟩)),.p (.sc (.string ⟨#[]⟩)),.p (.sc (.string ⟨#[]⟩)),.p (.sc (.string ⟨#[]⟩)),.p (.sc (.string ⟨#[]⟩)),.p (.sc (.string ⟨#[]⟩)),.p (.sc (.string ⟨#[]⟩)),.p (.sc (.string ⟨#[]⟩)),.p (.sc (.string ⟨#[]⟩)),.p (.sc (.string ⟨#[]⟩)),.p (.sc (.string ⟨#[]⟩)),.p (.sc (.string ⟨#[]⟩)),.p (.sc (.string ⟨#[]⟩)),.p (.sc (.string ⟨#[]⟩)),.p (.sc (.string ⟨#[]⟩)),.p (.sc (.string ⟨#[]⟩)),.p (.sc (.string ⟨#[]⟩)),.p (.sc (.string ⟨#[]⟩)),.p (.sc (.string ⟨#[]⟩)),.p (.sc (.string ⟨#[]⟩)),.p (.sc (.string ⟨#[]⟩)),.p (.sc (.string ⟨#[]⟩)),.p (.sc (.string ⟨#[]⟩)),.p (.sc (.string ⟨#[]⟩)),.p (.sc (.string ⟨#[]⟩)),.p (.sc (.string ⟨#[]⟩)),.p (.sc (.string ⟨#[]⟩)),.p (.sc (.string ⟨#[]⟩)),.p (.sc (.string ⟨#[]⟩)),.p (.sc (.string ⟨#[]⟩)),.p (.sc (.string ⟨#[]⟩)),.p (.sc (.string ⟨#[]⟩)),.p (.sc (.string ⟨#[]⟩)),.p (.sc (.string ⟨#[]⟩)),.p (.sc (.string ⟨#[]⟩)),.p (.sc (.string ⟨#[]⟩)),.p (.sc (.string ⟨#[]⟩)),.p (.sc (.string ⟨#[]⟩)),.p (.sc (.string ⟨#[]⟩)),.p (.sc (.string ⟨#[]⟩)),.p (.sc (.string ⟨#[]⟩)),.p (.sc (.string ⟨#[]⟩)),.p (.sc (.string ⟨#[]⟩)),.p (.sc (.string ⟨#[]⟩)),.p (.sc (.string ⟨#[]⟩)),.p (.sc (.string ⟨#[]⟩)),.p (.sc (.string ⟨#[]⟩)),.p (.sc (.string ⟨#[]⟩)),.p (.sc (.string ⟨#[]⟩)),.p (.sc (.string ⟨#[]⟩)),.p (.sc (.string ⟨#[]⟩)),.p (.sc (.string ⟨#[]⟩)),.p (.sc (.string ⟨#[]⟩)),.p (.sc (.string ⟨#[]⟩)),.p (.sc (.string ⟨#[]⟩)),.p (.sc (.string ⟨#[]⟩)),.p (.sc (.string ⟨#[]⟩)),.p (.sc (.string ⟨#[]⟩)),.p (.sc (.string ⟨#[]⟩)),.p (.sc (.string ⟨#[]⟩)),.p (.sc (.string ⟨#[]⟩)),.p (.sc (.string ⟨#[]⟩)),.p (.sc (.string ⟨#[]⟩)),.p (.sc (.string ⟨#[]⟩)),.p (.sc (.string ⟨#[]⟩)),.p (.sc (.string ⟨#[]⟩)),.p (.sc (.string ⟨#[]⟩)),.p (.sc (.string ⟨#[]⟩)),.p (.sc (.string ⟨#[]⟩)),.p (.sc (.string ⟨#[]⟩)),.p (.sc (.string ⟨#[]⟩)),.p (.sc (.string ⟨#[]⟩)),.p (.sc (.string ⟨#[]⟩)),.p (.sc (.string ⟨#[]⟩)),.p (.sc (.string ⟨#[]⟩)),.p (.sc (.string ⟨#[]⟩)),.p (.sc (.string ⟨#[]⟩)),.p (.sc (.string ⟨#[]⟩)),.p (.sc (.string ⟨#[]⟩)),.p (.sc (.string ⟨#[]⟩)),.p (.sc (.string ⟨#[]⟩)),.p (.sc (.string ⟨#[]⟩))],[]⟩
theorem K3:aB Tryd.prog oz AT.g AT.args AT.m AT.v AT.m':=cX names (K:=G0) C5 (n:=10000000) (by kernel_rfl)
def G1:List bA:=AT::G0
theorem C6:dK Tryd.prog oz G1:=ej K3 C5
def AU:bA:=⟨31,[.os none 2 8 [.sc (.int .i64 65),.sc (.int .i64 0),.sc (.int .u32 0),.sc (.int .u32 0),.sc (.int .i32 (-1)),.ps 0 0 [],.ps 0 0 [],.ps 0 0 [],.sc (.int .i64 26),.sc (.int .i64 0),.sc (.int .u32 0),.sc (.int .u32 0),.sc (.int .i32 0),.ps 0 0 [],.ps 0 0 [],.ps 0 0 []]],[],.p (.sc (.int .i64 0)),[]⟩
theorem K4:aB Tryd.prog oz AU.g AU.args AU.m AU.v AU.m':=cX names (K:=G1) C6 (n:=10000000) (by kernel_rfl)
def G2:List bA:=AU::G1
theorem C7:dK Tryd.prog oz G2:=ej K4 C6
def AW:bA:=⟨27,[.mp 0 0],[.ac [.os none 5 1 [.sc (.int .u8 4),.sc (.int .u8 64),.sc (.int .u8 5),.sc (.int .u8 11),.sc (.int .u8 11)],.p (.sc (.int .i64 0)),.p (.sc (.int .i64 0)),.p (.sc (.int .i64 0))]],.ms 1 0 1 8 none,[.ac [.os none 5 1 [.sc (.int .u8 4),.sc (.int .u8 64),.sc (.int .u8 5),.sc (.int .u8 11),.sc (.int .u8 11)],.p (.sc (.int .i64 5)),.p (.sc (.int .i64 0)),.p (.sc (.int .i64 0))],.ob (.gr 62 true) [.p (.sc (.int .i64 4)),.p (.sc (.int .i64 0)),.p (.sc (.int .u32 0)),.p (.sc (.int .u32 0)),.p (.sc (.int .i32 0)),.p (.ps 0 0 []),.p (.ps 0 0 []),.p (.ps 0 0 [])]]⟩
theorem K5:aB Tryd.prog oz AW.g AW.args AW.m AW.v AW.m':=cX names (K:=G2) C7 (n:=10000000) (by kernel_rfl)
def Ji:List bA:=AW::G2
theorem G3:dK Tryd.prog oz Ji:=ej K5 C7
theorem G4:aB Tryd.prog oz 12 [] [] (.p (.sc (.bool true))) []:=cX names (K:=Ji) G3 (n:=10000000) (by kernel_rfl)
theorem yL:aB Tryd.prog env 12 [] [] (sB true) []:=aB.env (E:=oz) G4 fun _ _ q=>q
end Go.Proofs.YtddfgnmjecogdaaDoor.N
end
section
set_option linter.unusedSimpArgs false
set_option linter.unusedVariables false
namespace Go.Proofs.YtddfgnmjecogdaaDoor.N
open Go Go.Am
def zO (f:FuncId) (args:List AV) (m:Mem):Option (AV×Mem):=cond (Nat.beq f 15) (match args with | [v]=>some (v,m) | _=>none) none
def G5:dR:=cr bk aW [(15,0)] [] []
def Jj:Sc:= .fin
noncomputable def Es (l:List Ins):Tree:=
 (.at (an Tryd.prog env 15 0 [AV.p (PV.ps l.length 8 (aa l)),AV.os Option.none 0 0 [],AV.p (PV.sc (Value.int IntKind.i64 0))] ([]) 0 34))
theorem xq (l:List Ins):bC Tryd.prog env G5 1000000 15 ([aL l]) ([]) Jj=Es l:=by kernel_rfl
def Et:dR:=cr zO aW [(15,0)] [(15,0,1)] [(15,6,2),(15,6,3),(15,7,3)]
def G6:Sc:= .fin
noncomputable def q9 (l:List Ins) (i:Int):Tree:=
 (.test (decide (i<(↑l.length:Int)))
  (.must (ep i l.length&&true&&true)
   (.must (isInt IntKind.i64 ((aa l).getD (i.toNat*8) PV.bad)&&(isInt IntKind.i64 ((aa l).getD (i.toNat*8+1) PV.bad)&&(isInt IntKind.u32 ((aa l).getD (i.toNat*8+1+1) PV.bad)&&(isInt IntKind.u32 ((aa l).getD (i.toNat*8+1+1+1) PV.bad)&&(isInt IntKind.i32 ((aa l).getD (i.toNat*8+1+1+1+1) PV.bad)&&(aR ((aa l).getD (i.toNat*8+1+1+1+1+1) PV.bad)&&(aR ((aa l).getD (i.toNat*8+1+1+1+1+1+1) PV.bad)&&(aR ((aa l).getD (i.toNat*8+1+1+1+1+1+1+1) PV.bad)&&true)))))))&&true)
    (.must (((au (PV.ps (aj ((aa l).getD (i.toNat*8+1+1+1+1+1) PV.bad)) (au ((aa l).getD (i.toNat*8+1+1+1+1+1) PV.bad)) (af ((aa l).getD (i.toNat*8+1+1+1+1+1) PV.bad)))).beq 1||(aj (PV.ps (aj ((aa l).getD (i.toNat*8+1+1+1+1+1) PV.bad)) (au ((aa l).getD (i.toNat*8+1+1+1+1+1) PV.bad)) (af ((aa l).getD (i.toNat*8+1+1+1+1+1) PV.bad)))).beq 0&&Nat.ble 1 1)&&true&&true&&true&&((0+aj (PV.ps (aj ((aa l).getD (i.toNat*8+1+1+1+1+1) PV.bad)) (au ((aa l).getD (i.toNat*8+1+1+1+1+1) PV.bad)) (af ((aa l).getD (i.toNat*8+1+1+1+1+1) PV.bad))))*4).ble aJ&&(0+aj (PV.ps (aj ((aa l).getD (i.toNat*8+1+1+1+1+1) PV.bad)) (au ((aa l).getD (i.toNat*8+1+1+1+1+1) PV.bad)) (af ((aa l).getD (i.toNat*8+1+1+1+1+1) PV.bad)))).ble aJ&&true)
     (.call ⟨15,[AV.p (PV.ps (aj (PV.ps (aj ((aa l).getD (i.toNat*8+1+1+1+1+1+1) PV.bad)) (au ((aa l).getD (i.toNat*8+1+1+1+1+1+1) PV.bad)) (af ((aa l).getD (i.toNat*8+1+1+1+1+1+1) PV.bad)))) (au (PV.ps (aj ((aa l).getD (i.toNat*8+1+1+1+1+1+1) PV.bad)) (au ((aa l).getD (i.toNat*8+1+1+1+1+1+1) PV.bad)) (af ((aa l).getD (i.toNat*8+1+1+1+1+1+1) PV.bad)))) (af (PV.ps (aj ((aa l).getD (i.toNat*8+1+1+1+1+1+1) PV.bad)) (au ((aa l).getD (i.toNat*8+1+1+1+1+1+1) PV.bad)) (af ((aa l).getD (i.toNat*8+1+1+1+1+1+1) PV.bad)))))],[],AV.p (PV.ps (aj (PV.ps (aj ((aa l).getD (i.toNat*8+1+1+1+1+1+1) PV.bad)) (au ((aa l).getD (i.toNat*8+1+1+1+1+1+1) PV.bad)) (af ((aa l).getD (i.toNat*8+1+1+1+1+1+1) PV.bad)))) (au (PV.ps (aj ((aa l).getD (i.toNat*8+1+1+1+1+1+1) PV.bad)) (au ((aa l).getD (i.toNat*8+1+1+1+1+1+1) PV.bad)) (af ((aa l).getD (i.toNat*8+1+1+1+1+1+1) PV.bad)))) (af (PV.ps (aj ((aa l).getD (i.toNat*8+1+1+1+1+1+1) PV.bad)) (au ((aa l).getD (i.toNat*8+1+1+1+1+1+1) PV.bad)) (af ((aa l).getD (i.toNat*8+1+1+1+1+1+1) PV.bad))))),[]⟩
      (.call ⟨15,[AV.p (PV.ps (aj (PV.ps (aj ((aa l).getD (i.toNat*8+1+1+1+1+1+1+1) PV.bad)) (au ((aa l).getD (i.toNat*8+1+1+1+1+1+1+1) PV.bad)) (af ((aa l).getD (i.toNat*8+1+1+1+1+1+1+1) PV.bad)))) (au (PV.ps (aj ((aa l).getD (i.toNat*8+1+1+1+1+1+1+1) PV.bad)) (au ((aa l).getD (i.toNat*8+1+1+1+1+1+1+1) PV.bad)) (af ((aa l).getD (i.toNat*8+1+1+1+1+1+1+1) PV.bad)))) (af (PV.ps (aj ((aa l).getD (i.toNat*8+1+1+1+1+1+1+1) PV.bad)) (au ((aa l).getD (i.toNat*8+1+1+1+1+1+1+1) PV.bad)) (af ((aa l).getD (i.toNat*8+1+1+1+1+1+1+1) PV.bad)))))],[],AV.p (PV.ps (aj (PV.ps (aj ((aa l).getD (i.toNat*8+1+1+1+1+1+1+1) PV.bad)) (au ((aa l).getD (i.toNat*8+1+1+1+1+1+1+1) PV.bad)) (af ((aa l).getD (i.toNat*8+1+1+1+1+1+1+1) PV.bad)))) (au (PV.ps (aj ((aa l).getD (i.toNat*8+1+1+1+1+1+1+1) PV.bad)) (au ((aa l).getD (i.toNat*8+1+1+1+1+1+1+1) PV.bad)) (af ((aa l).getD (i.toNat*8+1+1+1+1+1+1+1) PV.bad)))) (af (PV.ps (aj ((aa l).getD (i.toNat*8+1+1+1+1+1+1+1) PV.bad)) (au ((aa l).getD (i.toNat*8+1+1+1+1+1+1+1) PV.bad)) (af ((aa l).getD (i.toNat*8+1+1+1+1+1+1+1) PV.bad))))),[]⟩
       (.at (an Tryd.prog env 15 0 [AV.p (PV.ps l.length 8 (aa l)),AV.os (Option.some 0) 1 8 [PV.sc (Value.int IntKind.i64 (aA (PV.sc (Value.int IntKind.i64 (aA ((aa l).getD (i.toNat*8) PV.bad)))))),PV.sc (Value.int IntKind.i64 (aA (PV.sc (Value.int IntKind.i64 (aA ((aa l).getD (i.toNat*8+1) PV.bad)))))),PV.sc (Value.int IntKind.u32 (aA (PV.sc (Value.int IntKind.u32 (aA ((aa l).getD (i.toNat*8+1+1) PV.bad)))))),PV.sc (Value.int IntKind.u32 (aA (PV.sc (Value.int IntKind.u32 (aA ((aa l).getD (i.toNat*8+1+1+1) PV.bad)))))),PV.sc (Value.int IntKind.i32 (aA (PV.sc (Value.int IntKind.i32 (aA ((aa l).getD (i.toNat*8+1+1+1+1) PV.bad)))))),PV.ps (0+aj (PV.ps (aj ((aa l).getD (i.toNat*8+1+1+1+1+1) PV.bad)) (au ((aa l).getD (i.toNat*8+1+1+1+1+1) PV.bad)) (af ((aa l).getD (i.toNat*8+1+1+1+1+1) PV.bad)))) 1 ([]++af (PV.ps (aj ((aa l).getD (i.toNat*8+1+1+1+1+1) PV.bad)) (au ((aa l).getD (i.toNat*8+1+1+1+1+1) PV.bad)) (af ((aa l).getD (i.toNat*8+1+1+1+1+1) PV.bad)))),PV.ps (aj (PV.ps (aj (PV.ps (aj ((aa l).getD (i.toNat*8+1+1+1+1+1+1) PV.bad)) (au ((aa l).getD (i.toNat*8+1+1+1+1+1+1) PV.bad)) (af ((aa l).getD (i.toNat*8+1+1+1+1+1+1) PV.bad)))) (au (PV.ps (aj ((aa l).getD (i.toNat*8+1+1+1+1+1+1) PV.bad)) (au ((aa l).getD (i.toNat*8+1+1+1+1+1+1) PV.bad)) (af ((aa l).getD (i.toNat*8+1+1+1+1+1+1) PV.bad)))) (af (PV.ps (aj ((aa l).getD (i.toNat*8+1+1+1+1+1+1) PV.bad)) (au ((aa l).getD (i.toNat*8+1+1+1+1+1+1) PV.bad)) (af ((aa l).getD (i.toNat*8+1+1+1+1+1+1) PV.bad)))))) (au (PV.ps (aj (PV.ps (aj ((aa l).getD (i.toNat*8+1+1+1+1+1+1) PV.bad)) (au ((aa l).getD (i.toNat*8+1+1+1+1+1+1) PV.bad)) (af ((aa l).getD (i.toNat*8+1+1+1+1+1+1) PV.bad)))) (au (PV.ps (aj ((aa l).getD (i.toNat*8+1+1+1+1+1+1) PV.bad)) (au ((aa l).getD (i.toNat*8+1+1+1+1+1+1) PV.bad)) (af ((aa l).getD (i.toNat*8+1+1+1+1+1+1) PV.bad)))) (af (PV.ps (aj ((aa l).getD (i.toNat*8+1+1+1+1+1+1) PV.bad)) (au ((aa l).getD (i.toNat*8+1+1+1+1+1+1) PV.bad)) (af ((aa l).getD (i.toNat*8+1+1+1+1+1+1) PV.bad)))))) (af (PV.ps (aj (PV.ps (aj ((aa l).getD (i.toNat*8+1+1+1+1+1+1) PV.bad)) (au ((aa l).getD (i.toNat*8+1+1+1+1+1+1) PV.bad)) (af ((aa l).getD (i.toNat*8+1+1+1+1+1+1) PV.bad)))) (au (PV.ps (aj ((aa l).getD (i.toNat*8+1+1+1+1+1+1) PV.bad)) (au ((aa l).getD (i.toNat*8+1+1+1+1+1+1) PV.bad)) (af ((aa l).getD (i.toNat*8+1+1+1+1+1+1) PV.bad)))) (af (PV.ps (aj ((aa l).getD (i.toNat*8+1+1+1+1+1+1) PV.bad)) (au ((aa l).getD (i.toNat*8+1+1+1+1+1+1) PV.bad)) (af ((aa l).getD (i.toNat*8+1+1+1+1+1+1) PV.bad)))))),PV.ps (aj (PV.ps (aj (PV.ps (aj ((aa l).getD (i.toNat*8+1+1+1+1+1+1+1) PV.bad)) (au ((aa l).getD (i.toNat*8+1+1+1+1+1+1+1) PV.bad)) (af ((aa l).getD (i.toNat*8+1+1+1+1+1+1+1) PV.bad)))) (au (PV.ps (aj ((aa l).getD (i.toNat*8+1+1+1+1+1+1+1) PV.bad)) (au ((aa l).getD (i.toNat*8+1+1+1+1+1+1+1) PV.bad)) (af ((aa l).getD (i.toNat*8+1+1+1+1+1+1+1) PV.bad)))) (af (PV.ps (aj ((aa l).getD (i.toNat*8+1+1+1+1+1+1+1) PV.bad)) (au ((aa l).getD (i.toNat*8+1+1+1+1+1+1+1) PV.bad)) (af ((aa l).getD (i.toNat*8+1+1+1+1+1+1+1) PV.bad)))))) (au (PV.ps (aj (PV.ps (aj ((aa l).getD (i.toNat*8+1+1+1+1+1+1+1) PV.bad)) (au ((aa l).getD (i.toNat*8+1+1+1+1+1+1+1) PV.bad)) (af ((aa l).getD (i.toNat*8+1+1+1+1+1+1+1) PV.bad)))) (au (PV.ps (aj ((aa l).getD (i.toNat*8+1+1+1+1+1+1+1) PV.bad)) (au ((aa l).getD (i.toNat*8+1+1+1+1+1+1+1) PV.bad)) (af ((aa l).getD (i.toNat*8+1+1+1+1+1+1+1) PV.bad)))) (af (PV.ps (aj ((aa l).getD (i.toNat*8+1+1+1+1+1+1+1) PV.bad)) (au ((aa l).getD (i.toNat*8+1+1+1+1+1+1+1) PV.bad)) (af ((aa l).getD (i.toNat*8+1+1+1+1+1+1+1) PV.bad)))))) (af (PV.ps (aj (PV.ps (aj ((aa l).getD (i.toNat*8+1+1+1+1+1+1+1) PV.bad)) (au ((aa l).getD (i.toNat*8+1+1+1+1+1+1+1) PV.bad)) (af ((aa l).getD (i.toNat*8+1+1+1+1+1+1+1) PV.bad)))) (au (PV.ps (aj ((aa l).getD (i.toNat*8+1+1+1+1+1+1+1) PV.bad)) (au ((aa l).getD (i.toNat*8+1+1+1+1+1+1+1) PV.bad)) (af ((aa l).getD (i.toNat*8+1+1+1+1+1+1+1) PV.bad)))) (af (PV.ps (aj ((aa l).getD (i.toNat*8+1+1+1+1+1+1+1) PV.bad)) (au ((aa l).getD (i.toNat*8+1+1+1+1+1+1+1) PV.bad)) (af ((aa l).getD (i.toNat*8+1+1+1+1+1+1+1) PV.bad))))))],AV.p (PV.sc (Value.int IntKind.i64 (IntKind.i64.wrap (i+1))))] ([av.tok]) 0 34)))))))
  (.out (Out.ret (AV.os Option.none 0 0 []) [])))
theorem tN (l:List Ins) (i:Int):grow Tryd.prog env Et 1000000 true (an Tryd.prog env 15 0 ([aL l,AV.os Option.none 0 0 [],sI IntKind.i64 i]) ([]) 0 34) G6 atEnd=q9 l i:=by kernel_rfl
def Eu:dR:=cr zO aW [(15,0)] [(15,0,1)] [(15,6,2),(15,6,3),(15,7,3),(15,10,3)]
def G7:Sc:= .fin
noncomputable def rj (l:List Ins) (k:Nat) (cs:List PV) (i:Int):Tree:=
 (.test (decide (i<(↑l.length:Int)))
  (.must (ep i l.length&&true&&true)
   (.must (isInt IntKind.i64 ((aa l).getD (i.toNat*8) PV.bad)&&(isInt IntKind.i64 ((aa l).getD (i.toNat*8+1) PV.bad)&&(isInt IntKind.u32 ((aa l).getD (i.toNat*8+1+1) PV.bad)&&(isInt IntKind.u32 ((aa l).getD (i.toNat*8+1+1+1) PV.bad)&&(isInt IntKind.i32 ((aa l).getD (i.toNat*8+1+1+1+1) PV.bad)&&(aR ((aa l).getD (i.toNat*8+1+1+1+1+1) PV.bad)&&(aR ((aa l).getD (i.toNat*8+1+1+1+1+1+1) PV.bad)&&(aR ((aa l).getD (i.toNat*8+1+1+1+1+1+1+1) PV.bad)&&true)))))))&&true)
    (.must (((au (PV.ps (aj ((aa l).getD (i.toNat*8+1+1+1+1+1) PV.bad)) (au ((aa l).getD (i.toNat*8+1+1+1+1+1) PV.bad)) (af ((aa l).getD (i.toNat*8+1+1+1+1+1) PV.bad)))).beq 1||(aj (PV.ps (aj ((aa l).getD (i.toNat*8+1+1+1+1+1) PV.bad)) (au ((aa l).getD (i.toNat*8+1+1+1+1+1) PV.bad)) (af ((aa l).getD (i.toNat*8+1+1+1+1+1) PV.bad)))).beq 0&&Nat.ble 1 1)&&true&&true&&true&&((0+aj (PV.ps (aj ((aa l).getD (i.toNat*8+1+1+1+1+1) PV.bad)) (au ((aa l).getD (i.toNat*8+1+1+1+1+1) PV.bad)) (af ((aa l).getD (i.toNat*8+1+1+1+1+1) PV.bad))))*4).ble aJ&&(0+aj (PV.ps (aj ((aa l).getD (i.toNat*8+1+1+1+1+1) PV.bad)) (au ((aa l).getD (i.toNat*8+1+1+1+1+1) PV.bad)) (af ((aa l).getD (i.toNat*8+1+1+1+1+1) PV.bad)))).ble aJ&&true)
     (.call ⟨15,[AV.p (PV.ps (aj (PV.ps (aj ((aa l).getD (i.toNat*8+1+1+1+1+1+1) PV.bad)) (au ((aa l).getD (i.toNat*8+1+1+1+1+1+1) PV.bad)) (af ((aa l).getD (i.toNat*8+1+1+1+1+1+1) PV.bad)))) (au (PV.ps (aj ((aa l).getD (i.toNat*8+1+1+1+1+1+1) PV.bad)) (au ((aa l).getD (i.toNat*8+1+1+1+1+1+1) PV.bad)) (af ((aa l).getD (i.toNat*8+1+1+1+1+1+1) PV.bad)))) (af (PV.ps (aj ((aa l).getD (i.toNat*8+1+1+1+1+1+1) PV.bad)) (au ((aa l).getD (i.toNat*8+1+1+1+1+1+1) PV.bad)) (af ((aa l).getD (i.toNat*8+1+1+1+1+1+1) PV.bad)))))],[],AV.p (PV.ps (aj (PV.ps (aj ((aa l).getD (i.toNat*8+1+1+1+1+1+1) PV.bad)) (au ((aa l).getD (i.toNat*8+1+1+1+1+1+1) PV.bad)) (af ((aa l).getD (i.toNat*8+1+1+1+1+1+1) PV.bad)))) (au (PV.ps (aj ((aa l).getD (i.toNat*8+1+1+1+1+1+1) PV.bad)) (au ((aa l).getD (i.toNat*8+1+1+1+1+1+1) PV.bad)) (af ((aa l).getD (i.toNat*8+1+1+1+1+1+1) PV.bad)))) (af (PV.ps (aj ((aa l).getD (i.toNat*8+1+1+1+1+1+1) PV.bad)) (au ((aa l).getD (i.toNat*8+1+1+1+1+1+1) PV.bad)) (af ((aa l).getD (i.toNat*8+1+1+1+1+1+1) PV.bad))))),[]⟩
      (.call ⟨15,[AV.p (PV.ps (aj (PV.ps (aj ((aa l).getD (i.toNat*8+1+1+1+1+1+1+1) PV.bad)) (au ((aa l).getD (i.toNat*8+1+1+1+1+1+1+1) PV.bad)) (af ((aa l).getD (i.toNat*8+1+1+1+1+1+1+1) PV.bad)))) (au (PV.ps (aj ((aa l).getD (i.toNat*8+1+1+1+1+1+1+1) PV.bad)) (au ((aa l).getD (i.toNat*8+1+1+1+1+1+1+1) PV.bad)) (af ((aa l).getD (i.toNat*8+1+1+1+1+1+1+1) PV.bad)))) (af (PV.ps (aj ((aa l).getD (i.toNat*8+1+1+1+1+1+1+1) PV.bad)) (au ((aa l).getD (i.toNat*8+1+1+1+1+1+1+1) PV.bad)) (af ((aa l).getD (i.toNat*8+1+1+1+1+1+1+1) PV.bad)))))],[],AV.p (PV.ps (aj (PV.ps (aj ((aa l).getD (i.toNat*8+1+1+1+1+1+1+1) PV.bad)) (au ((aa l).getD (i.toNat*8+1+1+1+1+1+1+1) PV.bad)) (af ((aa l).getD (i.toNat*8+1+1+1+1+1+1+1) PV.bad)))) (au (PV.ps (aj ((aa l).getD (i.toNat*8+1+1+1+1+1+1+1) PV.bad)) (au ((aa l).getD (i.toNat*8+1+1+1+1+1+1+1) PV.bad)) (af ((aa l).getD (i.toNat*8+1+1+1+1+1+1+1) PV.bad)))) (af (PV.ps (aj ((aa l).getD (i.toNat*8+1+1+1+1+1+1+1) PV.bad)) (au ((aa l).getD (i.toNat*8+1+1+1+1+1+1+1) PV.bad)) (af ((aa l).getD (i.toNat*8+1+1+1+1+1+1+1) PV.bad))))),[]⟩
       (.must (((k+1)*104).ble aJ&&(k+1).ble aJ&&true)
        (.at (an Tryd.prog env 15 0 [AV.p (PV.ps l.length 8 (aa l)),AV.os (Option.some 0) (k+1) 8 (cs++[PV.sc (Value.int IntKind.i64 (aA (PV.sc (Value.int IntKind.i64 (aA ((aa l).getD (i.toNat*8) PV.bad)))))),PV.sc (Value.int IntKind.i64 (aA (PV.sc (Value.int IntKind.i64 (aA ((aa l).getD (i.toNat*8+1) PV.bad)))))),PV.sc (Value.int IntKind.u32 (aA (PV.sc (Value.int IntKind.u32 (aA ((aa l).getD (i.toNat*8+1+1) PV.bad)))))),PV.sc (Value.int IntKind.u32 (aA (PV.sc (Value.int IntKind.u32 (aA ((aa l).getD (i.toNat*8+1+1+1) PV.bad)))))),PV.sc (Value.int IntKind.i32 (aA (PV.sc (Value.int IntKind.i32 (aA ((aa l).getD (i.toNat*8+1+1+1+1) PV.bad)))))),PV.ps (0+aj (PV.ps (aj ((aa l).getD (i.toNat*8+1+1+1+1+1) PV.bad)) (au ((aa l).getD (i.toNat*8+1+1+1+1+1) PV.bad)) (af ((aa l).getD (i.toNat*8+1+1+1+1+1) PV.bad)))) 1 ([]++af (PV.ps (aj ((aa l).getD (i.toNat*8+1+1+1+1+1) PV.bad)) (au ((aa l).getD (i.toNat*8+1+1+1+1+1) PV.bad)) (af ((aa l).getD (i.toNat*8+1+1+1+1+1) PV.bad)))),PV.ps (aj (PV.ps (aj (PV.ps (aj ((aa l).getD (i.toNat*8+1+1+1+1+1+1) PV.bad)) (au ((aa l).getD (i.toNat*8+1+1+1+1+1+1) PV.bad)) (af ((aa l).getD (i.toNat*8+1+1+1+1+1+1) PV.bad)))) (au (PV.ps (aj ((aa l).getD (i.toNat*8+1+1+1+1+1+1) PV.bad)) (au ((aa l).getD (i.toNat*8+1+1+1+1+1+1) PV.bad)) (af ((aa l).getD (i.toNat*8+1+1+1+1+1+1) PV.bad)))) (af (PV.ps (aj ((aa l).getD (i.toNat*8+1+1+1+1+1+1) PV.bad)) (au ((aa l).getD (i.toNat*8+1+1+1+1+1+1) PV.bad)) (af ((aa l).getD (i.toNat*8+1+1+1+1+1+1) PV.bad)))))) (au (PV.ps (aj (PV.ps (aj ((aa l).getD (i.toNat*8+1+1+1+1+1+1) PV.bad)) (au ((aa l).getD (i.toNat*8+1+1+1+1+1+1) PV.bad)) (af ((aa l).getD (i.toNat*8+1+1+1+1+1+1) PV.bad)))) (au (PV.ps (aj ((aa l).getD (i.toNat*8+1+1+1+1+1+1) PV.bad)) (au ((aa l).getD (i.toNat*8+1+1+1+1+1+1) PV.bad)) (af ((aa l).getD (i.toNat*8+1+1+1+1+1+1) PV.bad)))) (af (PV.ps (aj ((aa l).getD (i.toNat*8+1+1+1+1+1+1) PV.bad)) (au ((aa l).getD (i.toNat*8+1+1+1+1+1+1) PV.bad)) (af ((aa l).getD (i.toNat*8+1+1+1+1+1+1) PV.bad)))))) (af (PV.ps (aj (PV.ps (aj ((aa l).getD (i.toNat*8+1+1+1+1+1+1) PV.bad)) (au ((aa l).getD (i.toNat*8+1+1+1+1+1+1) PV.bad)) (af ((aa l).getD (i.toNat*8+1+1+1+1+1+1) PV.bad)))) (au (PV.ps (aj ((aa l).getD (i.toNat*8+1+1+1+1+1+1) PV.bad)) (au ((aa l).getD (i.toNat*8+1+1+1+1+1+1) PV.bad)) (af ((aa l).getD (i.toNat*8+1+1+1+1+1+1) PV.bad)))) (af (PV.ps (aj ((aa l).getD (i.toNat*8+1+1+1+1+1+1) PV.bad)) (au ((aa l).getD (i.toNat*8+1+1+1+1+1+1) PV.bad)) (af ((aa l).getD (i.toNat*8+1+1+1+1+1+1) PV.bad)))))),PV.ps (aj (PV.ps (aj (PV.ps (aj ((aa l).getD (i.toNat*8+1+1+1+1+1+1+1) PV.bad)) (au ((aa l).getD (i.toNat*8+1+1+1+1+1+1+1) PV.bad)) (af ((aa l).getD (i.toNat*8+1+1+1+1+1+1+1) PV.bad)))) (au (PV.ps (aj ((aa l).getD (i.toNat*8+1+1+1+1+1+1+1) PV.bad)) (au ((aa l).getD (i.toNat*8+1+1+1+1+1+1+1) PV.bad)) (af ((aa l).getD (i.toNat*8+1+1+1+1+1+1+1) PV.bad)))) (af (PV.ps (aj ((aa l).getD (i.toNat*8+1+1+1+1+1+1+1) PV.bad)) (au ((aa l).getD (i.toNat*8+1+1+1+1+1+1+1) PV.bad)) (af ((aa l).getD (i.toNat*8+1+1+1+1+1+1+1) PV.bad)))))) (au (PV.ps (aj (PV.ps (aj ((aa l).getD (i.toNat*8+1+1+1+1+1+1+1) PV.bad)) (au ((aa l).getD (i.toNat*8+1+1+1+1+1+1+1) PV.bad)) (af ((aa l).getD (i.toNat*8+1+1+1+1+1+1+1) PV.bad)))) (au (PV.ps (aj ((aa l).getD (i.toNat*8+1+1+1+1+1+1+1) PV.bad)) (au ((aa l).getD (i.toNat*8+1+1+1+1+1+1+1) PV.bad)) (af ((aa l).getD (i.toNat*8+1+1+1+1+1+1+1) PV.bad)))) (af (PV.ps (aj ((aa l).getD (i.toNat*8+1+1+1+1+1+1+1) PV.bad)) (au ((aa l).getD (i.toNat*8+1+1+1+1+1+1+1) PV.bad)) (af ((aa l).getD (i.toNat*8+1+1+1+1+1+1+1) PV.bad)))))) (af (PV.ps (aj (PV.ps (aj ((aa l).getD (i.toNat*8+1+1+1+1+1+1+1) PV.bad)) (au ((aa l).getD (i.toNat*8+1+1+1+1+1+1+1) PV.bad)) (af ((aa l).getD (i.toNat*8+1+1+1+1+1+1+1) PV.bad)))) (au (PV.ps (aj ((aa l).getD (i.toNat*8+1+1+1+1+1+1+1) PV.bad)) (au ((aa l).getD (i.toNat*8+1+1+1+1+1+1+1) PV.bad)) (af ((aa l).getD (i.toNat*8+1+1+1+1+1+1+1) PV.bad)))) (af (PV.ps (aj ((aa l).getD (i.toNat*8+1+1+1+1+1+1+1) PV.bad)) (au ((aa l).getD (i.toNat*8+1+1+1+1+1+1+1) PV.bad)) (af ((aa l).getD (i.toNat*8+1+1+1+1+1+1+1) PV.bad))))))]),AV.p (PV.sc (Value.int IntKind.i64 (IntKind.i64.wrap (i+1))))] ([av.tok]) 0 34))))))))
  (.out (Out.ret (AV.os (Option.some 0) k 8 cs) [av.tok])))
theorem tO (l:List Ins) (k:Nat) (cs:List PV) (i:Int):grow Tryd.prog env Eu 1000000 true (an Tryd.prog env 15 0 ([aL l,AV.os (Option.some 0) k 8 cs,sI IntKind.i64 i]) ([av.tok]) 0 34) G7 atEnd=rj l k cs i:=by kernel_rfl
theorem AX (l:List Ins) (hc:bZ l≤1000000) (IH : ∀x∈l,aB Tryd.prog env 15 [aL x.l] [] (aL x.l) []∧aB Tryd.prog env 15 [aL x.e] [] (aL x.e) []) :
  ∀(r k:Nat),k+r=l.length→Am.Good Tryd.prog env (an Tryd.prog env 15 0 [aL l,.os (some 0) k 8 (aa (l.take k)),sI .i64 k] [.tok] 0 34) (.ret (.os (some 0) l.length 8 (aa l)) [.tok]):=by
 intro r
 induction r with
 |zero=>
  intro k hk
  refine aq names (tO l k (aa (l.take k)) k) ?_
  have h2 : ¬((k:Int)<l.length):=by omega
  have h3:k=l.length:=by omega
  subst h3
  simp[rj,Tree.ok]
 |succ r ih=>
  intro k hk
  refine aq names (tO l k (aa (l.take k)) k) ?_
  have j8:k<l.length:=by omega
  have wU:l[k]? = some l[k]:=List.getElem?_eq_getElem j8
  have hmem:l[k]∈l:=List.getElem_mem j8
  have ht:l.take (k+1)=l.take k++[l[k]]:=List.take_succ_eq_append_getElem j8
  have ih:=ih (k+1) (by omega)
  rw[ht,oc,Cf] at ih
  generalize l[k]=x at *
  obtain⟨op,rs,a,b,nn,tags,ll,le⟩:=x
  obtain⟨c0,c1,c2,c3,c4,c5,c6,c7⟩:=dS wU
  have kq:=IH _ hmem
  have hcx:=dx hmem
  have Dv:=fG l
  simp only[fF] at hcx
  have hw:IntKind.i64.wrap ((k:Int)+1)=((k+1:Nat):Int):=by rw[cC (by omega) (by omega)];rfl
  have qQ:(k:Int)<(l.length:Int):=by omega
  have aY:aJ=70368744177664:=rfl
  simp only[rj,Tree.ok,Nat.add_assoc,Nat.reduceAdd,c0,c1,c2,c3,c4,c5,c6,c7,aj,au,af,aR,isInt,aA,Int.toNat_natCast,ep,hw]
  refine⟨fun _=>⟨by simp[qQ],by simp,by simp;omega,kq.1,kq.2,by simp;omega,?_⟩,fun h=>absurd qQ (by simpa using h)⟩
  simpa[nk] using ih
theorem yM (x:Ins) (l:List Ins) (hc:bZ (x::l)≤1000000) (IH : ∀y∈x::l,aB Tryd.prog env 15 [aL y.l] [] (aL y.l) []∧aB Tryd.prog env 15 [aL y.e] [] (aL y.e) []) :
  Am.Good Tryd.prog env (an Tryd.prog env 15 0 [aL (x::l),.os none 0 0 [],sI .i64 0] [] 0 34) (.ret (.os (some 0) (x::l).length 8 (aa (x::l))) [.tok]):=by
 refine aq names (tN (x::l) 0) ?_
 have h1:=AX (x::l) hc IH l.length 1 (by simp;omega)
 have kq:=IH x (.head _)
 have hcx:=dx (.head _:x∈x::l)
 obtain⟨op,rs,a,b,nn,tags,ll,le⟩:=x
 obtain⟨c0,c1,c2,c3,c4,c5,c6,c7⟩:=dS (l:= .mk op rs a b nn tags ll le::l) (k:=0) rfl
 simp only[fF] at hcx
 have hw:IntKind.i64.wrap ((0:Int)+1)=((1:Nat):Int):=by decide
 have aY:aJ=70368744177664:=rfl
 simp only[Nat.zero_mul,Nat.zero_add] at c0 c1 c2 c3 c4 c5 c6 c7
 have z:Int.toNat 0=0:=rfl
 simp only[q9,Tree.ok,z,Nat.zero_mul,Nat.zero_add,Nat.reduceAdd,c0,c1,c2,c3,c4,c5,c6,c7,aj,au,af,aR,isInt,aA,ep,hw]
 refine⟨fun _=>⟨by simp,by simp,by simp;omega,kq.1,kq.2,?_⟩,fun h=>by simp at h⟩
 simpa[nk,aa,aL,sI] using h1
theorem nB : ∀(N:Nat) (l:List Ins),bZ l≤N→bZ l≤1000000→aB Tryd.prog env 15 [aL l] [] (aL l) []
 |N,[],_,_=>by
  refine aB.nil (tok:=none) (sz:=0) (m':=[]) ?_ (by omega)
  refine ak names (xq []) ?_
  refine aq names (tN [] 0) ?_
  simp[q9,Tree.ok]
 |N,x::l,hN,hc=>by
  have IH : ∀y∈x::l,aB Tryd.prog env 15 [aL y.l] [] (aL y.l) []∧aB Tryd.prog env 15 [aL y.e] [] (aL y.e) []:=by
   intro y hy
   have K6:=dx hy
   obtain⟨op,rs,a,b,nn,tags,ll,le⟩:=y
   simp only[fF] at K6
   match N,hN with
   |0,hN=>omega
   |N+1,hN=>exact⟨nB N ll (by omega) (by omega),nB N le (by omega) (by omega)⟩
  refine aB.pure (tok:=some 0) (m':=[.tok]) ?_
  refine ak names (xq (x::l)) ?_
  exact yM x l hc IH
end Go.Proofs.YtddfgnmjecogdaaDoor.N
end
section
set_option linter.unusedSimpArgs false
set_option linter.unusedVariables false
namespace Go.Proofs.YtddfgnmjecogdaaDoor.N
open Go Go.Am
noncomputable def G8:dR:=cr bk aW [(30,1)] [(30,0,0)] []
def Jk:Sc:= .fin
noncomputable def zP (k:Nat) (cs:List PV):Tree:=
 (.test ((↑k:Int) != (↑k:Int))
 (.out (.ret (sB false) []))
 (.at (an Tryd.prog env 30 1 [.p (.ps k 1 cs),.p (.ps k 1 cs),sI .i64 0] ([]) 0 26)))
theorem C8 (k:Nat) (cs:List PV):bC Tryd.prog env G8 1000000 30 ([AV.p (PV.ps k 1 cs),AV.p (PV.ps k 1 cs)]) ([]) Jk=zP k cs:=by kernel_rfl
noncomputable def G9:dR:=cr bk aW [] [] [(19,2,1),(19,2,3)]
def Jl:Sc:= .fin
noncomputable def zQ (k:Nat) (cs:List PV):Tree:=
 (.must (cs.all isByte&&true)
 (.must (cs.all isByte&&true)
 (.out (.ret (.p (.sc (.bool ((ByteArray.mk (List.map Am.byteOf cs).toArray).data.toList==(ByteArray.mk (List.map Am.byteOf cs).toArray).data.toList)))) []))))
theorem C9 (k:Nat) (cs:List PV):bC Tryd.prog env G9 1000000 19 ([AV.p (PV.ps k 1 cs),AV.p (PV.ps k 1 cs)]) ([]) Jl=zQ k cs:=by kernel_rfl
noncomputable def He:dR:=cr bk aW [(11,1)] [(11,0,0)] []
def Jm:Sc:= .fin
noncomputable def zR (l:List Ins):Tree:=
 (.test ((↑l.length:Int) != (↑l.length:Int))
 (.out (.ret (sB false) []))
 (.at (an Tryd.prog env 11 1 [.p (.ps l.length 8 (aa l)),.p (.ps l.length 8 (aa l)),sI .i64 0] ([]) 0 84)))
theorem Da (l:List Ins):bC Tryd.prog env He 1000000 11 ([aL l,aL l]) ([]) Jm=zR l:=by kernel_rfl
noncomputable def Ew:dR:=cr bk aW [(30,1)] [(30,0,2),(30,0,3)] [(30,0,3)]
def Hf:Sc:= .fin
noncomputable def rm (k:Nat) (i:Nat) (cs:List PV):Tree:=
 (.test (decide ((↑i:Int)<(↑k:Int)))
 (.must (ep (↑i:Int) k&&true&&(isInt IntKind.u32 (cs.getD ((↑i:Int).toNat*1) PV.bad)&&(ep (↑i:Int) k&&true&&(isInt IntKind.u32 (cs.getD ((↑i:Int).toNat*1) PV.bad)&&true)))&&true)
 (.test (aA (cs.getD ((↑i:Int).toNat*1) PV.bad) != aA (cs.getD ((↑i:Int).toNat*1) PV.bad))
 (.out (.ret (sB false) []))
 (.at (an Tryd.prog env 30 1 [.p (.ps k 1 cs),.p (.ps k 1 cs),sI .i64 (IntKind.i64.wrap ((↑i:Int)+1))] ([]) 0 26))))
 (.out (.ret (sB true) [])))
theorem tP (k:Nat) (i:Nat) (cs:List PV):grow Tryd.prog env Ew 1000000 true (an Tryd.prog env 30 1 ([AV.p (PV.ps k 1 cs),AV.p (PV.ps k 1 cs),sI IntKind.i64 (↑i:Int)]) ([]) 0 26) Hf atEnd=rm k i cs:=by kernel_rfl
noncomputable def Ex:dR:=cr bk aW [(11,1)] [(11,0,2),(11,8,6),(11,8,13),(11,8,20),(11,8,27),(11,8,34)] [(11,0,3)]
noncomputable def Hg (l:List Ins) (i:Nat):Sc:=(.fork (.fork (.lit (.lit (.lit (.lit .fin)))) (.fork (.lit (.lit (.lit .fin))) (.fork (.lit (.lit .fin)) (.fork (.lit .fin) (.fork .fin (.ans 30 (sB true) ([]) (.ans 11 (sB true) ([]) (.ans 11 (sB true) ([]) .fin)))))))) .fin)
noncomputable def rq (l:List Ins) (i:Nat):Tree:=
 (.test (decide ((↑i:Int)<(↑l.length:Int)))
 (.must (ep (↑i:Int) l.length&&true&&true&&(isInt IntKind.i64 ((aa l).getD ((↑i:Int).toNat*8) PV.bad)&&(isInt IntKind.i64 ((aa l).getD ((↑i:Int).toNat*8+1) PV.bad)&&(isInt IntKind.u32 ((aa l).getD ((↑i:Int).toNat*8+1+1) PV.bad)&&(isInt IntKind.u32 ((aa l).getD ((↑i:Int).toNat*8+1+1+1) PV.bad)&&(isInt IntKind.i32 ((aa l).getD ((↑i:Int).toNat*8+1+1+1+1) PV.bad)&&(aR ((aa l).getD ((↑i:Int).toNat*8+1+1+1+1+1) PV.bad)&&(aR ((aa l).getD ((↑i:Int).toNat*8+1+1+1+1+1+1) PV.bad)&&(aR ((aa l).getD ((↑i:Int).toNat*8+1+1+1+1+1+1+1) PV.bad)&&true)))))))&&true&&(ep (↑i:Int) l.length&&true&&true&&(isInt IntKind.i64 ((aa l).getD ((↑i:Int).toNat*8) PV.bad)&&(isInt IntKind.i64 ((aa l).getD ((↑i:Int).toNat*8+1) PV.bad)&&(isInt IntKind.u32 ((aa l).getD ((↑i:Int).toNat*8+1+1) PV.bad)&&(isInt IntKind.u32 ((aa l).getD ((↑i:Int).toNat*8+1+1+1) PV.bad)&&(isInt IntKind.i32 ((aa l).getD ((↑i:Int).toNat*8+1+1+1+1) PV.bad)&&(aR ((aa l).getD ((↑i:Int).toNat*8+1+1+1+1+1) PV.bad)&&(aR ((aa l).getD ((↑i:Int).toNat*8+1+1+1+1+1+1) PV.bad)&&(aR ((aa l).getD ((↑i:Int).toNat*8+1+1+1+1+1+1+1) PV.bad)&&true)))))))&&true&&true)))&&true)
 (.test (aA ((aa l).getD ((↑i:Int).toNat*8) PV.bad) != aA ((aa l).getD ((↑i:Int).toNat*8) PV.bad))
 (.out (.ret (sB false) []))
 (.test (aA ((aa l).getD ((↑i:Int).toNat*8+1) PV.bad) != aA ((aa l).getD ((↑i:Int).toNat*8+1) PV.bad))
 (.out (.ret (sB false) []))
 (.test (aA ((aa l).getD ((↑i:Int).toNat*8+1+1) PV.bad) != aA ((aa l).getD ((↑i:Int).toNat*8+1+1) PV.bad))
 (.out (.ret (sB false) []))
 (.test (aA ((aa l).getD ((↑i:Int).toNat*8+1+1+1) PV.bad) != aA ((aa l).getD ((↑i:Int).toNat*8+1+1+1) PV.bad))
 (.out (.ret (sB false) []))
 (.test (aA ((aa l).getD ((↑i:Int).toNat*8+1+1+1+1) PV.bad) != aA ((aa l).getD ((↑i:Int).toNat*8+1+1+1+1) PV.bad))
 (.out (.ret (sB false) []))
 (.call ⟨30,[.p (.ps (aj ((aa l).getD ((↑i:Int).toNat*8+1+1+1+1+1) PV.bad)) (au ((aa l).getD ((↑i:Int).toNat*8+1+1+1+1+1) PV.bad)) (af ((aa l).getD ((↑i:Int).toNat*8+1+1+1+1+1) PV.bad))),.p (.ps (aj ((aa l).getD ((↑i:Int).toNat*8+1+1+1+1+1) PV.bad)) (au ((aa l).getD ((↑i:Int).toNat*8+1+1+1+1+1) PV.bad)) (af ((aa l).getD ((↑i:Int).toNat*8+1+1+1+1+1) PV.bad)))],[],sB true,[]⟩
 (.call ⟨11,[.p (.ps (aj ((aa l).getD ((↑i:Int).toNat*8+1+1+1+1+1+1) PV.bad)) (au ((aa l).getD ((↑i:Int).toNat*8+1+1+1+1+1+1) PV.bad)) (af ((aa l).getD ((↑i:Int).toNat*8+1+1+1+1+1+1) PV.bad))),.p (.ps (aj ((aa l).getD ((↑i:Int).toNat*8+1+1+1+1+1+1) PV.bad)) (au ((aa l).getD ((↑i:Int).toNat*8+1+1+1+1+1+1) PV.bad)) (af ((aa l).getD ((↑i:Int).toNat*8+1+1+1+1+1+1) PV.bad)))],[],sB true,[]⟩
 (.call ⟨11,[.p (.ps (aj ((aa l).getD ((↑i:Int).toNat*8+1+1+1+1+1+1+1) PV.bad)) (au ((aa l).getD ((↑i:Int).toNat*8+1+1+1+1+1+1+1) PV.bad)) (af ((aa l).getD ((↑i:Int).toNat*8+1+1+1+1+1+1+1) PV.bad))),.p (.ps (aj ((aa l).getD ((↑i:Int).toNat*8+1+1+1+1+1+1+1) PV.bad)) (au ((aa l).getD ((↑i:Int).toNat*8+1+1+1+1+1+1+1) PV.bad)) (af ((aa l).getD ((↑i:Int).toNat*8+1+1+1+1+1+1+1) PV.bad)))],[],sB true,[]⟩
 (.at (an Tryd.prog env 11 1 [.p (.ps l.length 8 (aa l)),.p (.ps l.length 8 (aa l)),sI .i64 (IntKind.i64.wrap ((↑i:Int)+1))] ([]) 0 84)))))))))))
 (.out (.ret (sB true) [])))
theorem tQ (l:List Ins) (i:Nat):grow Tryd.prog env Ex 1000000 true (an Tryd.prog env 11 1 ([aL l,aL l,sI IntKind.i64 (↑i:Int)]) ([]) 0 84) (Hg l i) atEnd=rq l i:=by kernel_rfl
theorem Db {α:Type} {l:List α} {D:Nat→bD} {o:Out} (step : ∀(i:Nat) (x:α),l[i]? = some x→Am.Good Tryd.prog env (D (i+1)) o→Am.Good Tryd.prog env (D i) o)
  (fin:Am.Good Tryd.prog env (D l.length) o):Am.Good Tryd.prog env (D 0) o:=by
 have h : ∀r i:Nat,i+r=l.length→Am.Good Tryd.prog env (D i) o:=by
  intro r
  induction r with
  |zero=>
   intro i hi
   obtain rfl:i=l.length:=by omega
   exact fin
  |succ r ih=>
   intro i hi
   have hl:i<l.length:=by omega
   exact step i l[i] (List.getElem?_eq_getElem hl) (ih (i+1) (by omega))
 exact h l.length 0 (by omega)
theorem _root_.Go.Am.bH.env {P:Program} {E E':Env} (he:E.ct=E'.ct) {g:Gh} {c:bD} {fr:Frame} {w:World}:bH P E g c fr w→bH P E' g c fr w:=by
 have key : ∀{st:St} {a:Act},bn E g st a w→bn E' g st a w:=fun h=>⟨h.tm,h.nt,h.rel,h.fix,fun i cs hi=>h.ct i cs (by rw[he];exact hi)⟩
 unfold bH
 split
 · exact id
 · exact id
 · rintro ⟨b,a,t,cv,h1,h2,h3,h4,h5,h6⟩
   exact⟨b,a,t,cv,h1,h2,h3,h4,key h5,h6⟩
 · rintro ⟨b,a,t,h1,h2,h3,h4,h5,h6,h7⟩
   exact⟨b,a,t,h1,h2,h3,h4,h5,h6,key h7⟩
 · rintro ⟨b,a,h1,h2,h3,h4,h5,h6⟩
   exact⟨b,a,h1,h2,h3,h4,key h5,h6⟩
theorem _root_.Go.Am.Good.env {P:Program} {E E':Env} (he:E.ct=E'.ct) {c:bD} {o:Out} (h:Am.Good P E c o):Am.Good P E' c o:=
 fun g fr w cs hr=>h g fr w cs (bH.env he.symm hr)
theorem yN (l:List Int) (hl:l.length≤1000000):aB Tryd.prog env 30 [.p (.ps l.length 1 (bL .u32 l)),.p (.ps l.length 1 (bL .u32 l))] [] (sB true) []:=by
 refine ak names (C8 l.length (bL .u32 l)) ?_
 simp only[zP,Tree.ok,bne_self_eq_false]
 refine⟨fun q=>(by cases q),fun _=> ?_⟩
 refine Db (l:=l) (D:=fun i=>an Tryd.prog env 30 1 [.p (.ps l.length 1 (bL .u32 l)),.p (.ps l.length 1 (bL .u32 l)),sI .i64 i] [] 0 26) (fun i x hx h=> ?_) ?_
 · have hi:i<l.length:=(List.getElem?_eq_some_iff.1 hx).1
   have c0:(bL .u32 l).getD (i*1) .bad = .sc (.int .u32 (l.getD i 0)):=by rw[Nat.mul_one];exact nq .u32 l i hi
   have w:IntKind.i64.wrap ((i:Int)+1)=((i+1:Nat):Int):=by rw[cC (by omega) (by omega)];rfl
   have hd:decide ((i:Int)<(l.length:Int))=true:=decide_eq_true (by omega)
   have hin:ep (i:Int) l.length=true:=by simp only[ep,Bool.and_eq_true,decide_eq_true_eq];omega
   refine aq names (tP l.length i (bL .u32 l)) ?_
   simp only[rm,Tree.ok,isInt,aA,Int.toNat_natCast,c0,hd,hin,w,bne_self_eq_false,Bool.and_true]
   exact⟨fun _=>⟨(by first | rfl | trivial),(fun q=>(by cases q)),fun _=>h⟩,fun q=>(by cases q)⟩
 · have hd:decide ((l.length:Int)<(l.length:Int))=false:=decide_eq_false (by omega)
   refine aq names (tP l.length l.length (bL .u32 l)) ?_
   simp only[rm,Tree.ok,hd]
   exact⟨fun q=>(by cases q),fun _=>trivial⟩
theorem xu : ∀l:List Int,(bL .u8 l).all isByte=true
 |[]=>rfl
 |x::r=>by
  have h:=xu r
  simp only[bL,List.map_cons,List.all_cons,isByte,Bool.true_and] at h ⊢
  exact h
theorem yO (l:List Int):aB Tryd.prog env 19 [.p (.ps l.length 1 (bL .u8 l)),.p (.ps l.length 1 (bL .u8 l))] [] (sB true) []:=by
 refine ak names (C9 l.length (bL .u8 l)) ?_
 simp only[zQ,Tree.ok,xu,beq_self_eq_true,Bool.and_true]
 exact⟨trivial,trivial,trivial⟩
theorem lH : ∀(N:Nat) (l:List Ins),bZ l≤N→bZ l≤1000000→aB Tryd.prog env 11 [aL l,aL l] [] (sB true) []
 |N,l,hN,hc=>by
  have IH : ∀y∈l,aB Tryd.prog env 11 [aL y.l,aL y.l] [] (sB true) []∧aB Tryd.prog env 11 [aL y.e,aL y.e] [] (sB true) []:=by
   intro y hy
   have K6:=dx hy
   obtain⟨op,rs,a,b,nn,tags,ll,le⟩:=y
   simp only[fF] at K6
   match N,hN with
   |0,hN=>omega
   |N+1,hN=>exact⟨lH N ll (by omega) (by omega),lH N le (by omega) (by omega)⟩
  have Dv:=fG l
  refine ak names (Da l) ?_
  simp only[zR,Tree.ok,bne_self_eq_false]
  refine⟨fun q=>(by cases q),fun _=> ?_⟩
  refine Db (l:=l) (D:=fun i=>an Tryd.prog env 11 1 [aL l,aL l,sI .i64 i] [] 0 84) (fun i x hx h=> ?_) ?_
  · have hi:i<l.length:=(List.getElem?_eq_some_iff.1 hx).1
    have hmem:=List.mem_of_getElem? hx
    have kq:=IH x hmem
    have hcx:=dx hmem
    obtain⟨op,rs,a,b,nn,tags,ll,le⟩:=x
    obtain⟨c0,c1,c2,c3,c4,c5,c6,c7⟩:=dS hx
    simp only[fF] at hcx
    have w:IntKind.i64.wrap ((i:Int)+1)=((i+1:Nat):Int):=by rw[cC (by omega) (by omega)];rfl
    have hd:decide ((i:Int)<(l.length:Int))=true:=decide_eq_true (by omega)
    have hin:ep (i:Int) l.length=true:=by simp only[ep,Bool.and_eq_true,decide_eq_true_eq];omega
    refine aq names (tQ l i) ?_
    simp only[rq,Tree.ok,Nat.add_assoc,Nat.reduceAdd,c0,c1,c2,c3,c4,c5,c6,c7,isInt,aR,aA,aj,au,af,Int.toNat_natCast,hd,hin,w,bne_self_eq_false,Bool.and_true,Bool.true_and]
    exact⟨fun _=>⟨(by first | rfl | trivial),(fun q=>(by cases q)),fun _=>⟨(fun q=>(by cases q)),fun _=>⟨(fun q=>(by cases q)),fun _=>⟨(fun q=>(by cases q)),fun _=>⟨(fun q=>(by cases q)),fun _=>⟨yN tags (by omega),kq.1,kq.2,h⟩⟩⟩⟩⟩⟩,fun q=>(by cases q)⟩
  · have hd:decide ((l.length:Int)<(l.length:Int))=false:=decide_eq_false (by omega)
    refine aq names (tQ l l.length) ?_
    simp only[rq,Tree.ok,hd]
    exact⟨fun q=>(by cases q),fun _=>trivial⟩
end Go.Proofs.YtddfgnmjecogdaaDoor.N
end
section
set_option linter.unusedSimpArgs false
set_option linter.unusedVariables false
namespace Go.Proofs.YtddfgnmjecogdaaDoor.N
open Go Go.Am
def Ey (_:List Ins) (_ _ _:Int) (R:List AV→Int) (f:FuncId) (args:List AV) (m:Mem):Option (AV×Mem):=cond (Nat.beq f 13) (some (sI .i64 (R args),m)) none
noncomputable def Hh:dR:=cr bk aW [(13,0)] [] []
def Jn:Sc:= .fin
noncomputable def Ez (l:List Ins) (most:Int):Tree:=
 (.at (an Tryd.prog env 13 0 [AV.p (PV.ps l.length 8 (aa l)),AV.p (PV.sc (Value.int IntKind.i64 most)),AV.p (PV.sc (Value.int IntKind.i64 0)),AV.p (PV.sc (Value.int IntKind.i64 0))] ([]) 0 58))
theorem Dc (l:List Ins) (most:Int):bC Tryd.prog env Hh 1000000 13 ([aL l,sI IntKind.i64 most]) ([]) Jn=Ez l most:=by kernel_rfl
noncomputable def EA (l:List Ins) (most:Int) (n:Int) (i:Int) (R:List AV→Int):dR:=cr (Ey l most n i R) aW [(13,0)] [(13,4,5),(13,0,1),(13,0,2),(13,0,3)] [(13,6,4),(13,6,6),(13,8,3),(13,8,5),(13,10,3),(13,10,5)]
def Hi:Sc:=(.fork (.fork (.fork .fin (.no .fin)) .fin) (.lit .fin))
noncomputable def ru (l:List Ins) (most:Int) (n:Int) (i:Int) (R:List AV→Int):Tree:=
 (.test (decide (i<(↑l.length:Int)))
  (.test (decide (n≤most))
   (.must (ep i l.length&&true&&true)
    (.must (aR ((aa l).getD (i.toNat*8+5) PV.bad)&&true)
     (.test (decide (IntKind.i64.wrap (IntKind.i64.wrap (n+1)+bif true then Min.min (↑(aj ((aa l).getD (i.toNat*8+5) PV.bad)):Int) most else Max.max (↑(aj ((aa l).getD (i.toNat*8+5) PV.bad)):Int) most)≤most))
      (.must (ep i l.length&&true&&true)
       (.must (aR ((aa l).getD (i.toNat*8+6) PV.bad)&&true)
        (.call ⟨13,[AV.p (PV.ps (aj ((aa l).getD (i.toNat*8+6) PV.bad)) (au ((aa l).getD (i.toNat*8+6) PV.bad)) (af ((aa l).getD (i.toNat*8+6) PV.bad))),AV.p (PV.sc (Value.int IntKind.i64 (IntKind.i64.wrap (most-IntKind.i64.wrap (IntKind.i64.wrap (n+1)+bif true then Min.min (↑(aj ((aa l).getD (i.toNat*8+5) PV.bad)):Int) most else Max.max (↑(aj ((aa l).getD (i.toNat*8+5) PV.bad)):Int) most)))))],[],AV.p (PV.sc (Value.int IntKind.i64 (R [AV.p (PV.ps (aj ((aa l).getD (i.toNat*8+6) PV.bad)) (au ((aa l).getD (i.toNat*8+6) PV.bad)) (af ((aa l).getD (i.toNat*8+6) PV.bad))),AV.p (PV.sc (Value.int IntKind.i64 (IntKind.i64.wrap (most-IntKind.i64.wrap (IntKind.i64.wrap (n+1)+bif true then Min.min (↑(aj ((aa l).getD (i.toNat*8+5) PV.bad)):Int) most else Max.max (↑(aj ((aa l).getD (i.toNat*8+5) PV.bad)):Int) most)))))]))),[]⟩
         (.test (decide (IntKind.i64.wrap (IntKind.i64.wrap (IntKind.i64.wrap (n+1)+bif true then Min.min (↑(aj ((aa l).getD (i.toNat*8+5) PV.bad)):Int) most else Max.max (↑(aj ((aa l).getD (i.toNat*8+5) PV.bad)):Int) most)+R [AV.p (PV.ps (aj ((aa l).getD (i.toNat*8+6) PV.bad)) (au ((aa l).getD (i.toNat*8+6) PV.bad)) (af ((aa l).getD (i.toNat*8+6) PV.bad))),AV.p (PV.sc (Value.int IntKind.i64 (IntKind.i64.wrap (most-IntKind.i64.wrap (IntKind.i64.wrap (n+1)+bif true then Min.min (↑(aj ((aa l).getD (i.toNat*8+5) PV.bad)):Int) most else Max.max (↑(aj ((aa l).getD (i.toNat*8+5) PV.bad)):Int) most)))))])≤most))
          (.must (ep i l.length&&true&&true)
           (.must (aR ((aa l).getD (i.toNat*8+7) PV.bad)&&true)
            (.call ⟨13,[AV.p (PV.ps (aj ((aa l).getD (i.toNat*8+7) PV.bad)) (au ((aa l).getD (i.toNat*8+7) PV.bad)) (af ((aa l).getD (i.toNat*8+7) PV.bad))),AV.p (PV.sc (Value.int IntKind.i64 (IntKind.i64.wrap (most-IntKind.i64.wrap (IntKind.i64.wrap (IntKind.i64.wrap (n+1)+bif true then Min.min (↑(aj ((aa l).getD (i.toNat*8+5) PV.bad)):Int) most else Max.max (↑(aj ((aa l).getD (i.toNat*8+5) PV.bad)):Int) most)+R [AV.p (PV.ps (aj ((aa l).getD (i.toNat*8+6) PV.bad)) (au ((aa l).getD (i.toNat*8+6) PV.bad)) (af ((aa l).getD (i.toNat*8+6) PV.bad))),AV.p (PV.sc (Value.int IntKind.i64 (IntKind.i64.wrap (most-IntKind.i64.wrap (IntKind.i64.wrap (n+1)+bif true then Min.min (↑(aj ((aa l).getD (i.toNat*8+5) PV.bad)):Int) most else Max.max (↑(aj ((aa l).getD (i.toNat*8+5) PV.bad)):Int) most)))))])))))],[],AV.p (PV.sc (Value.int IntKind.i64 (R [AV.p (PV.ps (aj ((aa l).getD (i.toNat*8+7) PV.bad)) (au ((aa l).getD (i.toNat*8+7) PV.bad)) (af ((aa l).getD (i.toNat*8+7) PV.bad))),AV.p (PV.sc (Value.int IntKind.i64 (IntKind.i64.wrap (most-IntKind.i64.wrap (IntKind.i64.wrap (IntKind.i64.wrap (n+1)+bif true then Min.min (↑(aj ((aa l).getD (i.toNat*8+5) PV.bad)):Int) most else Max.max (↑(aj ((aa l).getD (i.toNat*8+5) PV.bad)):Int) most)+R [AV.p (PV.ps (aj ((aa l).getD (i.toNat*8+6) PV.bad)) (au ((aa l).getD (i.toNat*8+6) PV.bad)) (af ((aa l).getD (i.toNat*8+6) PV.bad))),AV.p (PV.sc (Value.int IntKind.i64 (IntKind.i64.wrap (most-IntKind.i64.wrap (IntKind.i64.wrap (n+1)+bif true then Min.min (↑(aj ((aa l).getD (i.toNat*8+5) PV.bad)):Int) most else Max.max (↑(aj ((aa l).getD (i.toNat*8+5) PV.bad)):Int) most)))))])))))]))),[]⟩
             (.at (an Tryd.prog env 13 0 [AV.p (PV.ps l.length 8 (aa l)),AV.p (PV.sc (Value.int IntKind.i64 most)),AV.p (PV.sc (Value.int IntKind.i64 (IntKind.i64.wrap (IntKind.i64.wrap (IntKind.i64.wrap (IntKind.i64.wrap (n+1)+bif true then Min.min (↑(aj ((aa l).getD (i.toNat*8+5) PV.bad)):Int) most else Max.max (↑(aj ((aa l).getD (i.toNat*8+5) PV.bad)):Int) most)+R [AV.p (PV.ps (aj ((aa l).getD (i.toNat*8+6) PV.bad)) (au ((aa l).getD (i.toNat*8+6) PV.bad)) (af ((aa l).getD (i.toNat*8+6) PV.bad))),AV.p (PV.sc (Value.int IntKind.i64 (IntKind.i64.wrap (most-IntKind.i64.wrap (IntKind.i64.wrap (n+1)+bif true then Min.min (↑(aj ((aa l).getD (i.toNat*8+5) PV.bad)):Int) most else Max.max (↑(aj ((aa l).getD (i.toNat*8+5) PV.bad)):Int) most)))))])+R [AV.p (PV.ps (aj ((aa l).getD (i.toNat*8+7) PV.bad)) (au ((aa l).getD (i.toNat*8+7) PV.bad)) (af ((aa l).getD (i.toNat*8+7) PV.bad))),AV.p (PV.sc (Value.int IntKind.i64 (IntKind.i64.wrap (most-IntKind.i64.wrap (IntKind.i64.wrap (IntKind.i64.wrap (n+1)+bif true then Min.min (↑(aj ((aa l).getD (i.toNat*8+5) PV.bad)):Int) most else Max.max (↑(aj ((aa l).getD (i.toNat*8+5) PV.bad)):Int) most)+R [AV.p (PV.ps (aj ((aa l).getD (i.toNat*8+6) PV.bad)) (au ((aa l).getD (i.toNat*8+6) PV.bad)) (af ((aa l).getD (i.toNat*8+6) PV.bad))),AV.p (PV.sc (Value.int IntKind.i64 (IntKind.i64.wrap (most-IntKind.i64.wrap (IntKind.i64.wrap (n+1)+bif true then Min.min (↑(aj ((aa l).getD (i.toNat*8+5) PV.bad)):Int) most else Max.max (↑(aj ((aa l).getD (i.toNat*8+5) PV.bad)):Int) most)))))])))))])))),AV.p (PV.sc (Value.int IntKind.i64 (IntKind.i64.wrap (i+1))))] ([]) 0 58)))))
          (.at (an Tryd.prog env 13 0 [AV.p (PV.ps l.length 8 (aa l)),AV.p (PV.sc (Value.int IntKind.i64 most)),AV.p (PV.sc (Value.int IntKind.i64 (IntKind.i64.wrap (IntKind.i64.wrap (IntKind.i64.wrap (n+1)+bif true then Min.min (↑(aj ((aa l).getD (i.toNat*8+5) PV.bad)):Int) most else Max.max (↑(aj ((aa l).getD (i.toNat*8+5) PV.bad)):Int) most)+R [AV.p (PV.ps (aj ((aa l).getD (i.toNat*8+6) PV.bad)) (au ((aa l).getD (i.toNat*8+6) PV.bad)) (af ((aa l).getD (i.toNat*8+6) PV.bad))),AV.p (PV.sc (Value.int IntKind.i64 (IntKind.i64.wrap (most-IntKind.i64.wrap (IntKind.i64.wrap (n+1)+bif true then Min.min (↑(aj ((aa l).getD (i.toNat*8+5) PV.bad)):Int) most else Max.max (↑(aj ((aa l).getD (i.toNat*8+5) PV.bad)):Int) most)))))])))),AV.p (PV.sc (Value.int IntKind.i64 (IntKind.i64.wrap (i+1))))] ([]) 0 58))))))
      (.must (!(decide (IntKind.i64.wrap (IntKind.i64.wrap (n+1)+bif true then Min.min (↑(aj ((aa l).getD (i.toNat*8+5) PV.bad)):Int) most else Max.max (↑(aj ((aa l).getD (i.toNat*8+5) PV.bad)):Int) most)≤most)))
       (.at (an Tryd.prog env 13 0 [AV.p (PV.ps l.length 8 (aa l)),AV.p (PV.sc (Value.int IntKind.i64 most)),AV.p (PV.sc (Value.int IntKind.i64 (IntKind.i64.wrap (IntKind.i64.wrap (n+1)+bif true then Min.min (↑(aj ((aa l).getD (i.toNat*8+5) PV.bad)):Int) most else Max.max (↑(aj ((aa l).getD (i.toNat*8+5) PV.bad)):Int) most)))),AV.p (PV.sc (Value.int IntKind.i64 (IntKind.i64.wrap (i+1))))] ([]) 0 58))))))
   (.out (Out.ret (AV.p (PV.sc (Value.int IntKind.i64 n))) [])))
  (.out (Out.ret (AV.p (PV.sc (Value.int IntKind.i64 n))) [])))
theorem tR (l:List Ins) (most:Int) (n:Int) (i:Int) (R:List AV→Int):grow Tryd.prog env (EA l most n i R) 1000000 true (an Tryd.prog env 13 0 ([aL l,sI IntKind.i64 most,sI IntKind.i64 n,sI IntKind.i64 i]) ([]) 0 58) Hi atEnd=ru l most n i R:=by kernel_rfl
theorem xw (R:List AV→Int) (hR : ∀l most,R [aL l,sI .i64 most]=dL l most 0) (l:List Ins) (most:Int) (h0:0≤most) (hm:most≤1000000000000) (hl:l.length≤maxLen)
  (IH : ∀x∈l,∀m':Int,0≤m'→m'≤most→aB Tryd.prog env 13 [aL x.l,sI .i64 m'] [] (sI .i64 (dL x.l m' 0)) []∧aB Tryd.prog env 13 [aL x.e,sI .i64 m'] [] (sI .i64 (dL x.e m' 0)) []) :
  ∀(r k:Nat) (n:Int),k+r=l.length→0≤n→n≤2*most+1→Am.Good Tryd.prog env (an Tryd.prog env 13 0 [aL l,sI .i64 most,sI .i64 n,sI .i64 k] [] 0 58) (.ret (sI .i64 (dL (l.drop k) most n)) []):=by
 intro r
 induction r with
 |zero=>
  intro k n hk hn0 hn
  refine aq names (tR l most n k R) ?_
  have h1:l.drop k=[]:=List.drop_eq_nil_of_le (by omega)
  have h2 : ¬((k:Int)<l.length):=by omega
  simp[ru,Tree.ok,h1,h2,dL]
 |succ r ih=>
  intro k n hk hn0 hn
  refine aq names (tR l most n k R) ?_
  have j8:k<l.length:=by omega
  have wU:l[k]? = some l[k]:=List.getElem?_eq_getElem j8
  have hmem:l[k]∈l:=List.getElem_mem j8
  have hd:l.drop k=l[k]::l.drop (k+1):=List.drop_eq_getElem_cons j8
  rw[hd]
  generalize l[k]=x at *
  obtain⟨op,rs,a,b,nn,tags,ll,le⟩:=x
  have hc:=nr wU
  have c5:(aa l).getD (k*8+5) .bad = .ps tags.length 1 (bL .u32 tags):=hc 5 (by omega)
  have c6:(aa l).getD (k*8+6) .bad = .ps ll.length 8 (aa ll):=hc 6 (by omega)
  have c7:(aa l).getD (k*8+7) .bad = .ps le.length 8 (aa le):=hc 7 (by omega)
  have Ng:maxLen=9223372036854775807:=rfl
  have hw:IntKind.i64.wrap ((k:Int)+1)=((k+1:Nat):Int):=by rw[cC (by omega) (by omega)];rfl
  have hw1:IntKind.i64.wrap (n+1)=n+1:=cC (by omega) (by omega)
  have qQ:(k:Int)<(l.length:Int):=by omega
  simp only[ru,Tree.ok,c5,c6,c7,aj,au,af,aR,Int.toNat_natCast,ep,cond_true,hw,hw1]
  refine⟨fun _=>⟨fun hnm=>⟨by simp[qQ],rfl,?_⟩,fun hnm=> ?_⟩,fun h=>absurd qQ (by simpa using h)⟩
  · have hnm:n≤most:=by simpa using hnm
    have kq:=IH _ hmem
    simp only[dL,if_pos hnm,qH,Ins.l,Ins.e] at kq ⊢
    generalize hn1:n+1+min (tags.length:Int) most=n1
    have Fx:0≤n1∧n1≤2*most+1:=by omega
    have Jx:IntKind.i64.wrap n1=n1:=cC (by omega) (by omega)
    simp only[Jx]
    have MT:IntKind.i64.wrap (most-n1)=most-n1:=cC (by omega) (by omega)
    simp only[MT,hR]
    refine⟨fun h1=> ?_,fun h1=> ?_⟩
    · have h1:n1≤most:=by simpa using h1
      rw[if_pos h1]
      have hb:=dy ll (most-n1) 0 (by omega) (by omega) (by omega)
      have MU:IntKind.i64.wrap (n1+dL ll (most-n1) 0)=n1+dL ll (most-n1) 0:=cC (by omega) (by omega)
      refine⟨by simp[qQ],rfl,(kq (most-n1) (by omega) (by omega)).1,?_⟩
      simp only[MU]
      generalize hn2:n1+dL ll (most-n1) 0=n2
      have Ht:0≤n2∧n2≤2*most+1:=by omega
      have MV:IntKind.i64.wrap (most-n2)=most-n2:=cC (by omega) (by omega)
      simp only[MV]
      refine⟨fun h2=> ?_,fun h2=> ?_⟩
      · have h2:n2≤most:=by simpa using h2
        rw[if_pos h2]
        have Nh:=dy le (most-n2) 0 (by omega) (by omega) (by omega)
        have MW:IntKind.i64.wrap (n2+dL le (most-n2) 0)=n2+dL le (most-n2) 0:=cC (by omega) (by omega)
        refine⟨by simp[qQ],rfl,(kq (most-n2) (by omega) (by omega)).2,?_⟩
        simp only[MW]
        exact ih (k+1) _ (by omega) (by omega) (by omega)
      · have h2 : ¬n2≤most:=by simpa using h2
        rw[if_neg h2]
        exact ih (k+1) n2 (by omega) (by omega) (by omega)
    · have h1 : ¬n1≤most:=by simpa using h1
      rw[if_neg h1,if_neg h1]
      refine⟨by simpa using h1,?_⟩
      exact ih (k+1) n1 (by omega) (by omega) (by omega)
  · have hnm : ¬n≤most:=by simpa using hnm
    simp only[dL,if_neg hnm]
theorem Cm {l m:List Ins} (h:aL l=aL m):l=m:=by
 simp only[AV.p.injEq,PV.ps.injEq] at h
 exact ia h.2.2
open Classical in
noncomputable def Hj (args:List AV):Int:=if h : ∃l most,args=[aL l,sI .i64 most] then dL h.choose h.choose_spec.choose 0 else 0
theorem EB (l:List Ins) (most:Int):Hj [aL l,sI .i64 most]=dL l most 0:=by
 have h : ∃l' most',[aL l,sI .i64 most]=[aL l',sI .i64 most']:=⟨l,most,rfl⟩
 have e:=h.choose_spec.choose_spec
 unfold Hj
 rw[dif_pos h]
 have e1:=Cm (List.cons.inj e).1
 have e2:most=h.choose_spec.choose:=by
  have:=(List.cons.inj (List.cons.inj e).2).1
  simpa only[AV.p.injEq,PV.sc.injEq,Value.int.injEq,true_and] using this
 have e:(h.choose,h.choose_spec.choose)=(l,most):=by rw[Prod.mk.injEq];exact⟨e1.symm,e2.symm⟩
 exact congrArg (fun q:List Ins×Int=>dL q.1 q.2 0) e
theorem jT : ∀(N:Nat) (l:List Ins) (most:Int),bZ l≤N→l.length≤maxLen→so l→0≤most→most≤1000000000000→aB Tryd.prog env 13 [aL l,sI .i64 most] [] (sI .i64 (dL l most 0)) []
 |N,l,most,hN,hl,hw,h0,hm=>by
  have IH : ∀x∈l,∀m':Int,0≤m'→m'≤most→aB Tryd.prog env 13 [aL x.l,sI .i64 m'] [] (sI .i64 (dL x.l m' 0)) []∧aB Tryd.prog env 13 [aL x.e,sI .i64 m'] [] (sI .i64 (dL x.e m' 0)) []:=by
   intro x hx m' h0' hm'
   have hc:=dx hx
   have En:=Go.Am.gL hw hx
   obtain⟨op,rs,a,b,nn,tags,ll,le⟩:=x
   simp only[fF] at hc
   simp only[Dj] at En
   match N,hN with
   |0,hN=>omega
   |N+1,hN=>exact⟨jT N ll m' (by omega) En.2.2.2.2.2.2.1.1 En.2.2.2.2.2.2.1.2 h0' (by omega),jT N le m' (by omega) En.2.2.2.2.2.2.2.1 En.2.2.2.2.2.2.2.2 h0' (by omega)⟩
  refine ak names (Dc l most) ?_
  have h:=xw Hj EB l most h0 hm hl IH l.length 0 0 (by omega) (by omega) (by omega)
  rw[List.drop_zero] at h
  exact h
end Go.Proofs.YtddfgnmjecogdaaDoor.N
end
