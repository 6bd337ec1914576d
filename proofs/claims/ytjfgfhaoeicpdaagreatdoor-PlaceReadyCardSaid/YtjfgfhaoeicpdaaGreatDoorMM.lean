import Derived.Test.YtjfgfhaoeicpdaaGreatDoorMH
import Derived.Test.YtjfgfhaoeicpdaaGreatDoorMI
import Derived.Test.YtjfgfhaoeicpdaaGreatDoorMK
import Derived.Test.YtjfgfhaoeicpdaaGreatDoorMG
open Go.Proofs.Tryz renaming prog→ab5
open Go.Fn renaming func→adL
open Go.IntKind renaming i64→rn,u32→abb
open Go.Value renaming int→sd
open True renaming intro→afb
open Nat renaming beq→ae
open List renaming flatMap→aeR,getElem?_eq_getElem→bm,map→abG
open Bool renaming and_eq_true→ch,and_true→aeU,true_and→ae2
open Int renaming toNat_natCast→aep
noncomputable section
section
set_option linter.unusedSimpArgs false
set_option linter.unusedVariables false
namespace Go.Proofs.YtjfgfhaoeicpdaaGreatDoor.N
open Go Go.Am
def rM (M:Mo):Mem:=[.ac [.fn (.func 33) [] [.mp 1 0]],.pc M.aJ]
def haC (M:Mo) (g N i:Nat) (s e a:Int) (f:FuncId) (args:List AV) (m:Mem):Option (AV×Mem):=some (.aA [sI .i64 e,sI .i64 a],[.ac [.fn (.func 33) [] [.mp 1 0]],.pc M.aJ])
def EW (M:Mo):Mem:=[.ac [.fn (.func 34) [] []],.pc M.aJ]
def hbC (M:Mo) (g N i:Nat) (s e a:Int) (f:FuncId) (args:List AV) (m:Mem):Option (AV×Mem):=some (.aA [sI .i64 e,sI .i64 a],[.ac [.fn (.func 34) [] []],.pc M.aJ])
def EX (M:Mo):Mem:=[.pc M.aJ]
def hcC (M:Mo) (g N i:Nat) (s e a:Int) (f:FuncId) (args:List AV) (m:Mem):Option (AV×Mem):=some (.aA [sI .i64 e,sI .i64 a],[.pc M.aJ])
def Aa (M:Mo):Mem:=[.pc M.aJ,.ac [.fn (.func 34) [] []]]
def hdC (M:Mo) (g N i:Nat) (s e a:Int) (f:FuncId) (args:List AV) (m:Mem):Option (AV×Mem):=some (.aA [sI .i64 e,sI .i64 a],[.pc M.aJ,.ac [.fn (.func 34) [] []]])
def rN (M:Mo) (L L1:List ByteArray) (c0 c1 c2 c3:Int):Mem:=[.pc M.aJ,.ac [.vm 3],.ac [.vm 4],.ob (.map [.int .i64 0,.int .i64 1,.int .i64 2,.int .i64 3] [0,1,2,3] 4) [sI .i64 c0,sI .i64 c1,sI .i64 c2,sI .i64 c3],.ob (.smap L) []]
def heC (M:Mo) (g N i:Nat) (s e a:Int) (L L1:List ByteArray) (c0 c1 c2 c3:Int) (f:FuncId) (args:List AV) (m:Mem):Option (AV×Mem):=some (.aA [sI .i64 e,sI .i64 a],[.pc M.aJ,.ac [.vm 3],.ac [.vm 4],.ob (.map [.int .i64 0,.int .i64 1,.int .i64 2,.int .i64 3] [0,1,2,3] 4) [sI .i64 c0,sI .i64 c1,sI .i64 c2,sI .i64 c3],.ob (.smap L1) []])
def acY:bD:=aQ aI av [(35,0)] [] []
def agC:Sc:= .fin
def YO (M:Mo) (g:Nat) (N:Nat) (s:Int):aC:=
 (.at (ak ab5 env 35 0 [sI .i64 s,.fn (adL g) [] [.mp 0 0,.mp 1 0],.mp 2 0,sI .i64 (↑N:Int),sI .i64 0] ([.ac [.fn (adL 33) [] [.mp 1 0]],.pc M.aJ,.pc [sP 0,sP 0,sP 0,sP 0]]) 2 29))
theorem TV (M:Mo) (g:Nat) (N:Nat) (s:Int):aH ab5 env acY 1000000 35 ([sI rn s,sI rn (↑N:Int),AV.fn (adL g) [] [AV.mp 0 0,AV.mp 1 0]]) ([aU.ac [AV.fn (adL 33) [] [AV.mp 1 0]],aU.pc M.aJ]) agC=YO M g N s:=by kernel_rfl
def acZ (M:Mo) (g:Nat) (N:Nat) (i:Nat) (s e a:Int):bD:=aQ (haC M g N i s e a) av [(35,0)] [(35,0,1),(35,0,2)] []
def agD:Sc:= .fin
def G3 (M:Mo) (g:Nat) (N:Nat) (i:Nat) (s e a:Int):aC:=
 (.test (decide ((↑i:Int)<(↑N:Int)))
 (.call ⟨g,[sI .i64 (↑i:Int),.mp 0 0,.mp 1 0],[.ac [.fn (adL 33) [] [.mp 1 0]],.pc M.aJ],.aA [sI .i64 e,sI .i64 a],[.ac [.fn (adL 33) [] [.mp 1 0]],.pc M.aJ]⟩
 (.test (e != 0)
 (.out (.ret (.agg [sI .i64 e,sI .i64 s,sI .i64 (↑i:Int),sI .i64 a]) [.ac [.fn (adL 33) [] [.mp 1 0]],.pc M.aJ]))
 (.at (ak ab5 env 35 0 [sI .i64 s,.fn (adL g) [] [.mp 0 0,.mp 1 0],.mp 2 0,sI .i64 (↑N:Int),sI .i64 (rn.wrap ((↑i:Int)+1))] ([.ac [.fn (adL 33) [] [.mp 1 0]],.pc M.aJ,.pc [sP 0,sP 0,sP 0,sP 0]]) 2 29))))
 (.out (.ret (.agg [sI .i64 0,sI .i64 0,sI .i64 0,sI .i64 0]) [.ac [.fn (adL 33) [] [.mp 1 0]],.pc M.aJ])))
theorem I6 (M:Mo) (g:Nat) (N:Nat) (i:Nat) (s e a:Int):grow ab5 env (acZ M g N i s e a) 1000000 true (ak ab5 env 35 0 ([sI rn s,AV.fn (adL g) [] [AV.mp 0 0,AV.mp 1 0],AV.mp 2 0,sI rn (↑N:Int),sI rn (↑i:Int)]) ([aU.ac [AV.fn (adL 33) [] [AV.mp 1 0]],aU.pc M.aJ]++[aU.pc [sP 0,sP 0,sP 0,sP 0]]) 2 29) agD atEnd=G3 M g N i s e a:=by kernel_rfl
def ac0:bD:=aQ aI av [(35,0)] [] []
def agE:Sc:= .fin
def YP (M:Mo) (g:Nat) (N:Nat) (s:Int):aC:=
 (.at (ak ab5 env 35 0 [sI .i64 s,.fn (adL g) [] [.mp 0 0,.mp 1 0],.mp 2 0,sI .i64 (↑N:Int),sI .i64 0] ([.ac [.fn (adL 34) [] []],.pc M.aJ,.pc [sP 0,sP 0,sP 0,sP 0]]) 2 29))
theorem TW (M:Mo) (g:Nat) (N:Nat) (s:Int):aH ab5 env ac0 1000000 35 ([sI rn s,sI rn (↑N:Int),AV.fn (adL g) [] [AV.mp 0 0,AV.mp 1 0]]) ([aU.ac [AV.fn (adL 34) [] []],aU.pc M.aJ]) agE=YP M g N s:=by kernel_rfl
def ac1 (M:Mo) (g:Nat) (N:Nat) (i:Nat) (s e a:Int):bD:=aQ (hbC M g N i s e a) av [(35,0)] [(35,0,1),(35,0,2)] []
def agF:Sc:= .fin
def G4 (M:Mo) (g:Nat) (N:Nat) (i:Nat) (s e a:Int):aC:=
 (.test (decide ((↑i:Int)<(↑N:Int)))
 (.call ⟨g,[sI .i64 (↑i:Int),.mp 0 0,.mp 1 0],[.ac [.fn (adL 34) [] []],.pc M.aJ],.aA [sI .i64 e,sI .i64 a],[.ac [.fn (adL 34) [] []],.pc M.aJ]⟩
 (.test (e != 0)
 (.out (.ret (.agg [sI .i64 e,sI .i64 s,sI .i64 (↑i:Int),sI .i64 a]) [.ac [.fn (adL 34) [] []],.pc M.aJ]))
 (.at (ak ab5 env 35 0 [sI .i64 s,.fn (adL g) [] [.mp 0 0,.mp 1 0],.mp 2 0,sI .i64 (↑N:Int),sI .i64 (rn.wrap ((↑i:Int)+1))] ([.ac [.fn (adL 34) [] []],.pc M.aJ,.pc [sP 0,sP 0,sP 0,sP 0]]) 2 29))))
 (.out (.ret (.agg [sI .i64 0,sI .i64 0,sI .i64 0,sI .i64 0]) [.ac [.fn (adL 34) [] []],.pc M.aJ])))
theorem I7 (M:Mo) (g:Nat) (N:Nat) (i:Nat) (s e a:Int):grow ab5 env (ac1 M g N i s e a) 1000000 true (ak ab5 env 35 0 ([sI rn s,AV.fn (adL g) [] [AV.mp 0 0,AV.mp 1 0],AV.mp 2 0,sI rn (↑N:Int),sI rn (↑i:Int)]) ([aU.ac [AV.fn (adL 34) [] []],aU.pc M.aJ]++[aU.pc [sP 0,sP 0,sP 0,sP 0]]) 2 29) agF atEnd=G4 M g N i s e a:=by kernel_rfl
def ac2:bD:=aQ aI av [(35,0)] [] []
def agG:Sc:= .fin
def YQ (M:Mo) (g:Nat) (N:Nat) (s:Int):aC:=
 (.at (ak ab5 env 35 0 [sI .i64 s,.fn (adL g) [] [.mp 0 0],.mp 1 0,sI .i64 (↑N:Int),sI .i64 0] ([.pc M.aJ,.pc [sP 0,sP 0,sP 0,sP 0]]) 1 29))
theorem TX (M:Mo) (g:Nat) (N:Nat) (s:Int):aH ab5 env ac2 1000000 35 ([sI rn s,sI rn (↑N:Int),AV.fn (adL g) [] [AV.mp 0 0]]) ([aU.pc M.aJ]) agG=YQ M g N s:=by kernel_rfl
def ac3 (M:Mo) (g:Nat) (N:Nat) (i:Nat) (s e a:Int):bD:=aQ (hcC M g N i s e a) av [(35,0)] [(35,0,1),(35,0,2)] []
def agH:Sc:= .fin
def G5 (M:Mo) (g:Nat) (N:Nat) (i:Nat) (s e a:Int):aC:=
 (.test (decide ((↑i:Int)<(↑N:Int)))
 (.call ⟨g,[sI .i64 (↑i:Int),.mp 0 0],[.pc M.aJ],.aA [sI .i64 e,sI .i64 a],[.pc M.aJ]⟩
 (.test (e != 0)
 (.out (.ret (.agg [sI .i64 e,sI .i64 s,sI .i64 (↑i:Int),sI .i64 a]) [.pc M.aJ]))
 (.at (ak ab5 env 35 0 [sI .i64 s,.fn (adL g) [] [.mp 0 0],.mp 1 0,sI .i64 (↑N:Int),sI .i64 (rn.wrap ((↑i:Int)+1))] ([.pc M.aJ,.pc [sP 0,sP 0,sP 0,sP 0]]) 1 29))))
 (.out (.ret (.agg [sI .i64 0,sI .i64 0,sI .i64 0,sI .i64 0]) [.pc M.aJ])))
theorem I8 (M:Mo) (g:Nat) (N:Nat) (i:Nat) (s e a:Int):grow ab5 env (ac3 M g N i s e a) 1000000 true (ak ab5 env 35 0 ([sI rn s,AV.fn (adL g) [] [AV.mp 0 0],AV.mp 1 0,sI rn (↑N:Int),sI rn (↑i:Int)]) ([aU.pc M.aJ]++[aU.pc [sP 0,sP 0,sP 0,sP 0]]) 1 29) agH atEnd=G5 M g N i s e a:=by kernel_rfl
def ac4:bD:=aQ aI av [(35,0)] [] []
def agI:Sc:= .fin
def YR (M:Mo) (g:Nat) (N:Nat) (s:Int):aC:=
 (.at (ak ab5 env 35 0 [sI .i64 s,.fn (adL g) [] [.mp 0 0,.mp 1 0],.mp 2 0,sI .i64 (↑N:Int),sI .i64 0] ([.pc M.aJ,.ac [.fn (adL 34) [] []],.pc [sP 0,sP 0,sP 0,sP 0]]) 2 29))
theorem TY (M:Mo) (g:Nat) (N:Nat) (s:Int):aH ab5 env ac4 1000000 35 ([sI rn s,sI rn (↑N:Int),AV.fn (adL g) [] [AV.mp 0 0,AV.mp 1 0]]) ([aU.pc M.aJ,aU.ac [AV.fn (adL 34) [] []]]) agI=YR M g N s:=by kernel_rfl
def ac5 (M:Mo) (g:Nat) (N:Nat) (i:Nat) (s e a:Int):bD:=aQ (hdC M g N i s e a) av [(35,0)] [(35,0,1),(35,0,2)] []
def agJ:Sc:= .fin
def G6 (M:Mo) (g:Nat) (N:Nat) (i:Nat) (s e a:Int):aC:=
 (.test (decide ((↑i:Int)<(↑N:Int)))
 (.call ⟨g,[sI .i64 (↑i:Int),.mp 0 0,.mp 1 0],[.pc M.aJ,.ac [.fn (adL 34) [] []]],.aA [sI .i64 e,sI .i64 a],[.pc M.aJ,.ac [.fn (adL 34) [] []]]⟩
 (.test (e != 0)
 (.out (.ret (.agg [sI .i64 e,sI .i64 s,sI .i64 (↑i:Int),sI .i64 a]) [.pc M.aJ,.ac [.fn (adL 34) [] []]]))
 (.at (ak ab5 env 35 0 [sI .i64 s,.fn (adL g) [] [.mp 0 0,.mp 1 0],.mp 2 0,sI .i64 (↑N:Int),sI .i64 (rn.wrap ((↑i:Int)+1))] ([.pc M.aJ,.ac [.fn (adL 34) [] []],.pc [sP 0,sP 0,sP 0,sP 0]]) 2 29))))
 (.out (.ret (.agg [sI .i64 0,sI .i64 0,sI .i64 0,sI .i64 0]) [.pc M.aJ,.ac [.fn (adL 34) [] []]])))
theorem I9 (M:Mo) (g:Nat) (N:Nat) (i:Nat) (s e a:Int):grow ab5 env (ac5 M g N i s e a) 1000000 true (ak ab5 env 35 0 ([sI rn s,AV.fn (adL g) [] [AV.mp 0 0,AV.mp 1 0],AV.mp 2 0,sI rn (↑N:Int),sI rn (↑i:Int)]) ([aU.pc M.aJ,aU.ac [AV.fn (adL 34) [] []]]++[aU.pc [sP 0,sP 0,sP 0,sP 0]]) 2 29) agJ atEnd=G6 M g N i s e a:=by kernel_rfl
def ac6:bD:=aQ aI av [(35,0)] [] []
def agK:Sc:= .fin
def YS (M:Mo) (g:Nat) (N:Nat) (s:Int) (L:List ByteArray) (L1:List ByteArray) (c0 c1 c2 c3:Int):aC:=
 (.at (ak ab5 env 35 0 [sI .i64 s,.fn (adL g) [] [.mp 0 0,.mp 1 0,.mp 2 0],.mp 5 0,sI .i64 (↑N:Int),sI .i64 0] ([.pc M.aJ,.ac [.vm 3],.ac [.vm 4],.ob (aG.map [sd rn 0,sd rn 1,sd rn 2,sd rn 3] [0,1,2,3] 4) [sI .i64 c0,sI .i64 c1,sI .i64 c2,sI .i64 c3],.ob (aG.smap L) [],.pc [sP 0,sP 0,sP 0,sP 0]]) 5 29))
theorem TZ (M:Mo) (g:Nat) (N:Nat) (s:Int) (L:List ByteArray) (L1:List ByteArray) (c0 c1 c2 c3:Int):aH ab5 env ac6 1000000 35 ([sI rn s,sI rn (↑N:Int),AV.fn (adL g) [] [AV.mp 0 0,AV.mp 1 0,AV.mp 2 0]]) ([aU.pc M.aJ,aU.ac [AV.vm 3],aU.ac [AV.vm 4],aU.ob (aG.map [sd rn 0,sd rn 1,sd rn 2,sd rn 3] [0,1,2,3] 4) [sI rn c0,sI rn c1,sI rn c2,sI rn c3],aU.ob (aG.smap L) []]) agK=YS M g N s L L1 c0 c1 c2 c3:=by kernel_rfl
def ac7 (M:Mo) (g:Nat) (N:Nat) (i:Nat) (s e a:Int) (L:List ByteArray) (L1:List ByteArray) (c0 c1 c2 c3:Int):bD:=aQ (heC M g N i s e a L L1 c0 c1 c2 c3) av [(35,0)] [(35,0,1),(35,0,2)] []
def agL:Sc:= .fin
def CU (M:Mo) (g:Nat) (N:Nat) (i:Nat) (s e a:Int) (L:List ByteArray) (L1:List ByteArray) (c0 c1 c2 c3:Int):aC:=
 (.test (decide ((↑i:Int)<(↑N:Int)))
 (.call ⟨g,[sI .i64 (↑i:Int),.mp 0 0,.mp 1 0,.mp 2 0],[.pc M.aJ,.ac [.vm 3],.ac [.vm 4],.ob (aG.map [sd rn 0,sd rn 1,sd rn 2,sd rn 3] [0,1,2,3] 4) [sI .i64 c0,sI .i64 c1,sI .i64 c2,sI .i64 c3],.ob (aG.smap L) []],.aA [sI .i64 e,sI .i64 a],[.pc M.aJ,.ac [.vm 3],.ac [.vm 4],.ob (aG.map [sd rn 0,sd rn 1,sd rn 2,sd rn 3] [0,1,2,3] 4) [sI .i64 c0,sI .i64 c1,sI .i64 c2,sI .i64 c3],.ob (aG.smap L1) []]⟩
 (.test (e != 0)
 (.out (.ret (.agg [sI .i64 e,sI .i64 s,sI .i64 (↑i:Int),sI .i64 a]) [.pc M.aJ,.ac [.vm 3],.ac [.vm 4],.ob (aG.map [sd rn 0,sd rn 1,sd rn 2,sd rn 3] [0,1,2,3] 4) [sI .i64 c0,sI .i64 c1,sI .i64 c2,sI .i64 c3],.ob (aG.smap L1) []]))
 (.at (ak ab5 env 35 0 [sI .i64 s,.fn (adL g) [] [.mp 0 0,.mp 1 0,.mp 2 0],.mp 5 0,sI .i64 (↑N:Int),sI .i64 (rn.wrap ((↑i:Int)+1))] ([.pc M.aJ,.ac [.vm 3],.ac [.vm 4],.ob (aG.map [sd rn 0,sd rn 1,sd rn 2,sd rn 3] [0,1,2,3] 4) [sI .i64 c0,sI .i64 c1,sI .i64 c2,sI .i64 c3],.ob (aG.smap L1) [],.pc [sP 0,sP 0,sP 0,sP 0]]) 5 29))))
 (.out (.ret (.agg [sI .i64 0,sI .i64 0,sI .i64 0,sI .i64 0]) [.pc M.aJ,.ac [.vm 3],.ac [.vm 4],.ob (aG.map [sd rn 0,sd rn 1,sd rn 2,sd rn 3] [0,1,2,3] 4) [sI .i64 c0,sI .i64 c1,sI .i64 c2,sI .i64 c3],.ob (aG.smap L) []])))
theorem CV (M:Mo) (g:Nat) (N:Nat) (i:Nat) (s e a:Int) (L:List ByteArray) (L1:List ByteArray) (c0 c1 c2 c3:Int):grow ab5 env (ac7 M g N i s e a L L1 c0 c1 c2 c3) 1000000 true (ak ab5 env 35 0 ([sI rn s,AV.fn (adL g) [] [AV.mp 0 0,AV.mp 1 0,AV.mp 2 0],AV.mp 5 0,sI rn (↑N:Int),sI rn (↑i:Int)]) ([aU.pc M.aJ,aU.ac [AV.vm 3],aU.ac [AV.vm 4],aU.ob (aG.map [sd rn 0,sd rn 1,sd rn 2,sd rn 3] [0,1,2,3] 4) [sI rn c0,sI rn c1,sI rn c2,sI rn c3],aU.ob (aG.smap L) []]++[aU.pc [sP 0,sP 0,sP 0,sP 0]]) 5 29) agL atEnd=CU M g N i s e a L L1 c0 c1 c2 c3:=by kernel_rfl
def jf (s:Int) (e a:Nat→Int):Nat→Nat→AV
 |0,_=> .agg [sI .i64 0,sI .i64 0,sI .i64 0,sI .i64 0]
 |r+1,i=>if e i≠0 then .agg [sI .i64 (e i),sI .i64 s,sI .i64 i,sI .i64 (a i)] else jf s e a r (i+1)
theorem Ja {M:Mo} {g N:Nat} (hN:N≤1000000000) (s:Int) (e a:Nat→Int) (h : ∀i,i<N→an ab5 env g [sI .i64 i,.mp 0 0,.mp 1 0] (rM M) (.aA [sI .i64 (e i),sI .i64 (a i)]) (rM M)) :
  an ab5 env 35 [sI .i64 s,sI .i64 N,.fn (.func g) [] [.mp 0 0,.mp 1 0]] (rM M) (jf s e a N 0) (rM M):=by
 have loop : ∀r i:Nat,i+r=N→bR ab5 env (ak ab5 env 35 0 [sI .i64 s,.fn (.func g) [] [.mp 0 0,.mp 1 0],.mp 2 0,sI .i64 N,sI .i64 i] (rM M++[.pc [sP 0,sP 0,sP 0,sP 0]]) 2 29) (.ret (jf s e a r i) (rM M)):=by
  intro r
  induction r with
  |zero=>
   intro i hi
   obtain rfl:i=N:=by omega
   have hd:decide ((i:Int)<(i:Int))=false:=decide_eq_false (by omega)
   refine ah aM (I6 M g i i s 0 0) ?_
   simp only[G3,aC.ok,hd]
   exact⟨fun q=>(by cases q),fun _=>(by first | exact afb | rfl)⟩
  |succ r ih=>
   intro i hi
   have hd:decide ((i:Int)<(N:Int))=true:=decide_eq_true (by omega)
   have w:rn.wrap ((i:Int)+1)=((i+1:Nat):Int):=by rw[aO (by omega) (by omega)];rfl
   have k:=ih (i+1) (by omega)
   refine ah aM (I6 M g N i s (e i) (a i)) ?_
   simp only[G3,aC.ok,hd,w]
   refine⟨fun _=>⟨h i (by omega),fun q=> ?_,fun q=> ?_⟩,fun q=>(by cases q)⟩
   · rw[jf,if_pos (by simpa using q)];rfl
   · rw[jf,if_neg (by simpa using q)];exact k
 exact af aM (TV M g N s) (loop N 0 (by omega))
theorem T0 {M:Mo} {g N:Nat} (hN:N≤1000000000) (s:Int) (e a:Nat→Int) (h : ∀i,i<N→an ab5 env g [sI .i64 i,.mp 0 0,.mp 1 0] (EW M) (.aA [sI .i64 (e i),sI .i64 (a i)]) (EW M)) :
  an ab5 env 35 [sI .i64 s,sI .i64 N,.fn (.func g) [] [.mp 0 0,.mp 1 0]] (EW M) (jf s e a N 0) (EW M):=by
 have loop : ∀r i:Nat,i+r=N→bR ab5 env (ak ab5 env 35 0 [sI .i64 s,.fn (.func g) [] [.mp 0 0,.mp 1 0],.mp 2 0,sI .i64 N,sI .i64 i] (EW M++[.pc [sP 0,sP 0,sP 0,sP 0]]) 2 29) (.ret (jf s e a r i) (EW M)):=by
  intro r
  induction r with
  |zero=>
   intro i hi
   obtain rfl:i=N:=by omega
   have hd:decide ((i:Int)<(i:Int))=false:=decide_eq_false (by omega)
   refine ah aM (I7 M g i i s 0 0) ?_
   simp only[G4,aC.ok,hd]
   exact⟨fun q=>(by cases q),fun _=>(by first | exact afb | rfl)⟩
  |succ r ih=>
   intro i hi
   have hd:decide ((i:Int)<(N:Int))=true:=decide_eq_true (by omega)
   have w:rn.wrap ((i:Int)+1)=((i+1:Nat):Int):=by rw[aO (by omega) (by omega)];rfl
   have k:=ih (i+1) (by omega)
   refine ah aM (I7 M g N i s (e i) (a i)) ?_
   simp only[G4,aC.ok,hd,w]
   refine⟨fun _=>⟨h i (by omega),fun q=> ?_,fun q=> ?_⟩,fun q=>(by cases q)⟩
   · rw[jf,if_pos (by simpa using q)];rfl
   · rw[jf,if_neg (by simpa using q)];exact k
 exact af aM (TW M g N s) (loop N 0 (by omega))
theorem Jb {M:Mo} {g N:Nat} (hN:N≤1000000000) (s:Int) (e a:Nat→Int) (h : ∀i,i<N→an ab5 env g [sI .i64 i,.mp 0 0] (EX M) (.aA [sI .i64 (e i),sI .i64 (a i)]) (EX M)) :
  an ab5 env 35 [sI .i64 s,sI .i64 N,.fn (.func g) [] [.mp 0 0]] (EX M) (jf s e a N 0) (EX M):=by
 have loop : ∀r i:Nat,i+r=N→bR ab5 env (ak ab5 env 35 0 [sI .i64 s,.fn (.func g) [] [.mp 0 0],.mp 1 0,sI .i64 N,sI .i64 i] (EX M++[.pc [sP 0,sP 0,sP 0,sP 0]]) 1 29) (.ret (jf s e a r i) (EX M)):=by
  intro r
  induction r with
  |zero=>
   intro i hi
   obtain rfl:i=N:=by omega
   have hd:decide ((i:Int)<(i:Int))=false:=decide_eq_false (by omega)
   refine ah aM (I8 M g i i s 0 0) ?_
   simp only[G5,aC.ok,hd]
   exact⟨fun q=>(by cases q),fun _=>(by first | exact afb | rfl)⟩
  |succ r ih=>
   intro i hi
   have hd:decide ((i:Int)<(N:Int))=true:=decide_eq_true (by omega)
   have w:rn.wrap ((i:Int)+1)=((i+1:Nat):Int):=by rw[aO (by omega) (by omega)];rfl
   have k:=ih (i+1) (by omega)
   refine ah aM (I8 M g N i s (e i) (a i)) ?_
   simp only[G5,aC.ok,hd,w]
   refine⟨fun _=>⟨h i (by omega),fun q=> ?_,fun q=> ?_⟩,fun q=>(by cases q)⟩
   · rw[jf,if_pos (by simpa using q)];rfl
   · rw[jf,if_neg (by simpa using q)];exact k
 exact af aM (TX M g N s) (loop N 0 (by omega))
theorem Jc {M:Mo} {g N:Nat} (hN:N≤1000000000) (s:Int) (e a:Nat→Int) (h : ∀i,i<N→an ab5 env g [sI .i64 i,.mp 0 0,.mp 1 0] (Aa M) (.aA [sI .i64 (e i),sI .i64 (a i)]) (Aa M)) :
  an ab5 env 35 [sI .i64 s,sI .i64 N,.fn (.func g) [] [.mp 0 0,.mp 1 0]] (Aa M) (jf s e a N 0) (Aa M):=by
 have loop : ∀r i:Nat,i+r=N→bR ab5 env (ak ab5 env 35 0 [sI .i64 s,.fn (.func g) [] [.mp 0 0,.mp 1 0],.mp 2 0,sI .i64 N,sI .i64 i] (Aa M++[.pc [sP 0,sP 0,sP 0,sP 0]]) 2 29) (.ret (jf s e a r i) (Aa M)):=by
  intro r
  induction r with
  |zero=>
   intro i hi
   obtain rfl:i=N:=by omega
   have hd:decide ((i:Int)<(i:Int))=false:=decide_eq_false (by omega)
   refine ah aM (I9 M g i i s 0 0) ?_
   simp only[G6,aC.ok,hd]
   exact⟨fun q=>(by cases q),fun _=>(by first | exact afb | rfl)⟩
  |succ r ih=>
   intro i hi
   have hd:decide ((i:Int)<(N:Int))=true:=decide_eq_true (by omega)
   have w:rn.wrap ((i:Int)+1)=((i+1:Nat):Int):=by rw[aO (by omega) (by omega)];rfl
   have k:=ih (i+1) (by omega)
   refine ah aM (I9 M g N i s (e i) (a i)) ?_
   simp only[G6,aC.ok,hd,w]
   refine⟨fun _=>⟨h i (by omega),fun q=> ?_,fun q=> ?_⟩,fun q=>(by cases q)⟩
   · rw[jf,if_pos (by simpa using q)];rfl
   · rw[jf,if_neg (by simpa using q)];exact k
 exact af aM (TY M g N s) (loop N 0 (by omega))
theorem T1 {M:Mo} {g N:Nat} (hN:N≤1000000000) (s:Int) (e a:Nat→Int) (L:Nat→List ByteArray) (c0 c1 c2 c3:Int) (h : ∀i,i<N→an ab5 env g [sI .i64 i,.mp 0 0,.mp 1 0,.mp 2 0] (rN M (L i) [] c0 c1 c2 c3) (.aA [sI .i64 (e i),sI .i64 (a i)]) (rN M (L (i+1)) [] c0 c1 c2 c3)) :
  ∃L',an ab5 env 35 [sI .i64 s,sI .i64 N,.fn (.func g) [] [.mp 0 0,.mp 1 0,.mp 2 0]] (rN M (L 0) [] c0 c1 c2 c3) (jf s e a N 0) (rN M L' [] c0 c1 c2 c3):=by
 have loop : ∀r i:Nat,i+r=N → ∃L',bR ab5 env (ak ab5 env 35 0 [sI .i64 s,.fn (.func g) [] [.mp 0 0,.mp 1 0,.mp 2 0],.mp 5 0,sI .i64 N,sI .i64 i] (rN M (L i) [] c0 c1 c2 c3++[.pc [sP 0,sP 0,sP 0,sP 0]]) 5 29) (.ret (jf s e a r i) (rN M L' [] c0 c1 c2 c3)):=by
  intro r
  induction r with
  |zero=>
   intro i hi
   obtain rfl:i=N:=by omega
   have hd:decide ((i:Int)<(i:Int))=false:=decide_eq_false (by omega)
   refine⟨L i,ah aM (CV M g i i s 0 0 (L i) [] c0 c1 c2 c3) ?_⟩
   simp only[CU,aC.ok,hd]
   exact⟨fun q=>(by cases q),fun _=>(by first | exact afb | rfl)⟩
  |succ r ih=>
   intro i hi
   have hd:decide ((i:Int)<(N:Int))=true:=decide_eq_true (by omega)
   have w:rn.wrap ((i:Int)+1)=((i+1:Nat):Int):=by rw[aO (by omega) (by omega)];rfl
   obtain⟨L',k⟩:=ih (i+1) (by omega)
   by_cases z:e i=0
   · refine⟨L',ah aM (CV M g N i s (e i) (a i) (L i) (L (i+1)) c0 c1 c2 c3) ?_⟩
     simp only[CU,aC.ok,hd,w]
     refine⟨fun _=>⟨h i (by omega),fun q=>absurd z (by simpa using q),fun q=> ?_⟩,fun q=>(by cases q)⟩
     rw[jf,if_neg (by simpa using q)];exact k
   · refine⟨L (i+1),ah aM (CV M g N i s (e i) (a i) (L i) (L (i+1)) c0 c1 c2 c3) ?_⟩
     simp only[CU,aC.ok,hd,w]
     refine⟨fun _=>⟨h i (by omega),fun q=> ?_,fun q=>absurd (by simpa using q) z⟩,fun q=>(by cases q)⟩
     rw[jf,if_pos (by simpa using q)];rfl
 obtain⟨L',k⟩:=loop N 0 (by omega)
 exact⟨L',af aM (TZ M g N s (L 0) [] c0 c1 c2 c3) k⟩
def vcQ (M:Mo) (i:Nat) (b:Bool) (e:Int) (k:Nat) (f:FuncId) (args:List AV) (m:Mem):Option (AV×Mem):=cond (ae f 33) (some (sB b,m)) (cond (ae f 37) (some (.aA [sI .i64 e,sI .i64 0],m)) none)
def ac8:bD:=aQ aI av [] [] []
def agM:Sc:= .fin
def PC (M:Mo) (n:Int):aC:=
 (.out (.ret (.p (.sc (.bool (decide (n<(↑M.tys.length:Int)))))) [.pc M.aJ]))
theorem T2 (M:Mo) (n:Int):aH ab5 env ac8 1000000 33 ([sI rn n,AV.mp 0 0]) ([aU.pc M.aJ]) agM=PC M n:=by kernel_rfl
def ac9:bD:=aQ aI av [] [(37,0,0)] []
def agN:Sc:= .fin
def PD (b:Bool) (e:Int):aC:=
 (.test (b)
 (.out (.ret (.aA [sI .i64 0,sI .i64 0]) []))
 (.out (.ret (.aA [sI .i64 e,sI .i64 0]) [])))
theorem T3 (b:Bool) (e:Int):aH ab5 env ac9 1000000 37 ([sB b,sI rn e]) ([]) agN=PD b e:=by kernel_rfl
def ada:bD:=aQ aI av [] [] [(36,0,0)]
def agO (M:Mo) (i:Nat) (b:Bool) (e:Int):Sc:=(.vP 36 1 (vcQ M i b e 0) .fin)
def PE (M:Mo) (i:Nat) (b:Bool) (e:Int):aC:=
 (.call ⟨33,[sI .i64 (az (aB (aeR bQ M.aZ) (aK i*3+2))),.mp 0 0],[.pc M.aJ],.p (.sc (.bool b)),[.pc M.aJ]⟩
 (.call ⟨37,[.p (.sc (.bool b)),sI .i64 6],[],.aA [sI .i64 e,sI .i64 0],[]⟩
 (.must (bp (↑i:Int) M.aZ.length&&true&&true&&(isInt rn (aB (aeR bQ M.aZ) (aK i*3+2))&&true&&true)&&true)
 (.must true
 (.out (.ret (.aA [sI .i64 e,sI .i64 0]) [.ac [.fn (adL 33) [] [.mp 1 0]],.pc M.aJ]))))))
theorem T4 (M:Mo) (i:Nat) (b:Bool) (e:Int):aH ab5 env ada 1000000 36 ([sI rn (↑i:Int),AV.mp 0 0,AV.mp 1 0]) ([aU.ac [AV.fn (adL 33) [] [AV.mp 1 0]],aU.pc M.aJ]) (agO M i b e)=PE M i b e:=by kernel_rfl
def adb:bD:=aQ aI av [] [] [(38,0,0)]
def agP (M:Mo) (i:Nat) (b:Bool) (e:Int):Sc:=(.vP 38 1 (vcQ M i b e 0) .fin)
def PF (M:Mo) (i:Nat) (b:Bool) (e:Int):aC:=
 (.call ⟨33,[sI .i64 (az (aB (aeR aV M.fns) (aK i*3+0))),.mp 0 0],[.pc M.aJ],.p (.sc (.bool b)),[.pc M.aJ]⟩
 (.call ⟨37,[.p (.sc (.bool b)),sI .i64 6],[],.aA [sI .i64 e,sI .i64 0],[]⟩
 (.must (bp (↑i:Int) M.fns.length&&true&&true&&(isInt rn (aB (aeR aV M.fns) (aK i*3+0))&&true&&true)&&true)
 (.must true
 (.out (.ret (.aA [sI .i64 e,sI .i64 0]) [.ac [.fn (adL 33) [] [.mp 1 0]],.pc M.aJ]))))))
theorem T5 (M:Mo) (i:Nat) (b:Bool) (e:Int):aH ab5 env adb 1000000 38 ([sI rn (↑i:Int),AV.mp 0 0,AV.mp 1 0]) ([aU.ac [AV.fn (adL 33) [] [AV.mp 1 0]],aU.pc M.aJ]) (agP M i b e)=PF M i b e:=by kernel_rfl
theorem yN (M:Mo) (n:Int):an ab5 env 33 [sI .i64 n,.mp 0 0] [.pc M.aJ] (sB (decide (n<(M.tys.length:Int)))) [.pc M.aJ]:=af aM (T2 M n) (by unfold PC;rfl)
theorem eE (b:Bool) (e:Int):an ab5 env 37 [sB b,sI .i64 e] [] (.aA [sI .i64 (if b=true then 0 else e),sI .i64 0]) []:=by
 refine af aM (T3 b e) ?_
 cases b<;>simp only[PD,aC.ok]
 · exact⟨fun q=>(by cases q),fun _=>rfl⟩
 · exact⟨fun _=>rfl,fun q=>(by cases q)⟩
def Sl (M:Mo) (n:Int):Int:=if decide (n<(M.tys.length:Int))=true then 0 else 6
theorem T6 (M:Mo) {i:Nat} (hi:i<M.aZ.length):an ab5 env 36 [sI .i64 i,.mp 0 0,.mp 1 0] (rM M) (.aA [sI .i64 (Sl M M.aZ[i].ty),sI .i64 0]) (rM M):=by
 have hx:M.aZ[i]? = some M.aZ[i]:=bm hi
 have c:=bq (z:=3) (enc:=bQ) (fun _=>rfl) hx
 have c0:(M.aZ.flatMap bQ).getD (i*3+2) .bK = .sc (.int .i64 M.aZ[i].ty):=c 2 (by decide)
 have hin:bp (i:Int) M.aZ.length=true:=by simp only[bp,ch,decide_eq_true_eq];omega
 refine af aM (T4 M i (decide (M.aZ[i].ty<(M.tys.length:Int))) (Sl M M.aZ[i].ty)) ?_
 simp only[PE,bN,aC.ok,isInt,az,aep,c0,hin,aeU,ae2]
 exact⟨yN M _,eE _ 6,(by first | rfl | trivial),(by first | rfl | trivial),(by first | rfl | trivial)⟩
theorem Lp (M:Mo) (hN:M.aZ.length≤1000000000):an ab5 env 35 [sI .i64 2,sI .i64 M.aZ.length,.fn (.func 36) [] [.mp 0 0,.mp 1 0]] (rM M) (jf 2 (fun i=>(M.aZ[i]?).elim 0 fun x=>Sl M x.ty) (fun _=>0) M.aZ.length 0) (rM M):=
 Ja hN 2 _ _ fun i hi=>by
  rw[bm hi]
  exact T6 M hi
theorem T7 (M:Mo) {i:Nat} (hi:i<M.fns.length):an ab5 env 38 [sI .i64 i,.mp 0 0,.mp 1 0] (rM M) (.aA [sI .i64 (Sl M M.fns[i].ty),sI .i64 0]) (rM M):=by
 have hx:M.fns[i]? = some M.fns[i]:=bm hi
 have c:=bq (z:=3) (enc:=aV) (fun _=>rfl) hx
 have c0:(M.fns.flatMap aV).getD (i*3+0) .bK = .sc (.int .i64 M.fns[i].ty):=c 0 (by decide)
 have hin:bp (i:Int) M.fns.length=true:=by simp only[bp,ch,decide_eq_true_eq];omega
 refine af aM (T5 M i (decide (M.fns[i].ty<(M.tys.length:Int))) (Sl M M.fns[i].ty)) ?_
 simp only[PF,bN,aC.ok,isInt,az,aep,c0,hin,aeU,ae2]
 exact⟨yN M _,eE _ 6,(by first | rfl | trivial),(by first | rfl | trivial),(by first | rfl | trivial)⟩
theorem Lq (M:Mo) (hN:M.fns.length≤1000000000):an ab5 env 35 [sI .i64 3,sI .i64 M.fns.length,.fn (.func 38) [] [.mp 0 0,.mp 1 0]] (rM M) (jf 3 (fun i=>(M.fns[i]?).elim 0 fun x=>Sl M x.ty) (fun _=>0) M.fns.length 0) (rM M):=
 Ja hN 3 _ _ fun i hi=>by
  rw[bm hi]
  exact T7 M hi
def vkC (l:List Ins) (c:Int) (f:FuncId) (args:List AV) (m:Mem):Option (AV×Mem):=cond (ae f 63) (some (sI .i64 c,m)) none
def vmC (l:List Ins) (u e:Int) (f:FuncId) (args:List AV) (m:Mem):Option (AV×Mem):=cond (ae f 22) (some (.aA [sI .u32 u,sI .i64 e],m)) none
def vnQ (M:Mo) (i:Nat) (b:Bool) (e:Int) (k:Nat) (f:FuncId) (args:List AV) (m:Mem):Option (AV×Mem):=cond (ae f 34) (some (sB b,m)) (cond (ae f 37||ae f 44) (some (.aA [sI .i64 e,sI .i64 0],m)) none)
def vzC (M:Mo) (i:Nat) (p q e a:Int) (b:Bool) (f:FuncId) (args:List AV) (m:Mem):Option (AV×Mem):=cond (ae f 46||ae f 37) (some (.aA [sI .i64 e,sI .i64 a],m)) (cond (ae f 42) (some (.aA [.agg [sI .i64 p,sI .i64 q],sB b],m)) none)
def vqC (M:Mo) (l:List Ins) (fs:List Int) (b:Bool) (f:FuncId) (args:List AV) (m:Mem):Option (AV×Mem):=cond (ae f 34) (some (sB b,m)) none
def ade (l:List Ins) (c:Int):bD:=aQ (vkC l c) av [] [(22,2,4),(22,2,11),(22,0,0)] [(22,2,5),(22,2,7),(22,4,1),(22,4,3)]
def agR:Sc:=(.fork (.lit (.lit .fin)) (.fork (.lit .fin) .fin))
def PG (l:List Ins) (c:Int):aC:=
 (.test ((↑l.length:Int) != 1)
 (.out (.ret (.aA [sI .u32 0,sI .i64 210]) []))
 (.must (bp 0 l.length&&true&&true)
 (.must (isInt rn (aB (aq l) 0)&&true)
 (.test (az (aB (aq l) 0) != 65)
 (.out (.ret (.aA [sI .u32 0,sI .i64 210]) []))
 (.call ⟨63,[.p (.ps l.length 8 (aq l))],[],sI .i64 c,[]⟩
 (.test (c != 0)
 (.out (.ret (.aA [sI .u32 0,sI .i64 210]) []))
 (.must (bp 0 l.length&&true&&true)
 (.must (isInt IntKind.i32 (aB (aq l) 4)&&true)
 (.out (.ret (.aA [sI .u32 (abb.wrap (az (aB (aq l) 4))),sI .i64 0]) []))))))))))
theorem rO (l:List Ins) (c:Int):aH ab5 env (ade l c) 1000000 22 ([aL l]) ([]) agR=PG l c:=by kernel_rfl
def adf (l:List Ins) (u e:Int):bD:=aQ (vmC l u e) av [] [] []
def agS:Sc:= .fin
def PI (l:List Ins) (u e:Int):aC:=
 (.call ⟨22,[.p (.ps l.length 8 (aq l))],[],.aA [sI .u32 u,sI .i64 e],[]⟩
 (.out (.ret (.p (.sc (.bool (e==0)))) [])))
theorem T8 (l:List Ins) (u e:Int):aH ab5 env (adf l u e) 1000000 34 ([aL l]) ([]) agS=PI l u e:=by kernel_rfl
def adg:bD:=aQ aI av [] [] [(39,0,0)]
def agT (M:Mo) (i:Nat) (b:Bool) (e:Int):Sc:=(.vP 39 1 (vnQ M i b e 0) .fin)
def PJ (M:Mo) (i:Nat) (b:Bool) (e:Int):aC:=
 (.call ⟨34,[.p (.ps (aD (aB (aeR aY M.gls) (aK i*2+1))) (bh (aB (aeR aY M.gls) (aK i*2+1))) (au (aB (aeR aY M.gls) (aK i*2+1))))],[],.p (.sc (.bool b)),[]⟩
 (.call ⟨37,[.p (.sc (.bool b)),sI .i64 210],[],.aA [sI .i64 e,sI .i64 0],[]⟩
 (.must (bp (↑i:Int) M.gls.length&&true&&true&&(bB (aB (aeR aY M.gls) (aK i*2+1))&&true&&true)&&true)
 (.must true
 (.out (.ret (.aA [sI .i64 e,sI .i64 0]) [.ac [.fn (adL 34) [] []],.pc M.aJ]))))))
theorem T9 (M:Mo) (i:Nat) (b:Bool) (e:Int):aH ab5 env adg 1000000 39 ([sI rn (↑i:Int),AV.mp 0 0,AV.mp 1 0]) ([aU.ac [AV.fn (adL 34) [] []],aU.pc M.aJ]) (agT M i b e)=PJ M i b e:=by kernel_rfl
def adh:bD:=aQ aI av [] [(47,0,0)] [(47,0,1)]
def agU (M:Mo) (i:Nat) (b:Bool) (e:Int):Sc:=(.fork .fin (.vP 47 3 (vnQ M i b e 0) .fin))
def PK (M:Mo) (i:Nat) (b:Bool) (e:Int):aC:=
 (.test ((↑M.cM.length:Int)==0)
 (.must true
 (.out (.ret (.aA [sI .i64 6,sI .i64 0]) [.pc M.aJ,.ac [.fn (adL 34) [] []]])))
 (.call ⟨34,[.p (.ps (aD (aB (aeR bg M.bt) (aK i*2+0))) (bh (aB (aeR bg M.bt) (aK i*2+0))) (au (aB (aeR bg M.bt) (aK i*2+0))))],[],.p (.sc (.bool b)),[]⟩
 (.call ⟨37,[.p (.sc (.bool b)),sI .i64 210],[],.aA [sI .i64 e,sI .i64 0],[]⟩
 (.must (bp (↑i:Int) M.bt.length&&true&&true&&(bB (aB (aeR bg M.bt) (aK i*2+0))&&true&&true)&&true)
 (.must true
 (.out (.ret (.aA [sI .i64 e,sI .i64 0]) [.pc M.aJ,.ac [.fn (adL 34) [] []]])))))))
theorem Ua (M:Mo) (i:Nat) (b:Bool) (e:Int):aH ab5 env adh 1000000 47 ([sI rn (↑i:Int),AV.mp 0 0,AV.mp 1 0]) ([aU.pc M.aJ,aU.ac [AV.fn (adL 34) [] []]]) (agU M i b e)=PK M i b e:=by kernel_rfl
def adi:bD:=aQ aI av [] [] [(43,0,0)]
def agV (M:Mo) (i:Nat) (b:Bool) (e:Int):Sc:=(.vP 43 1 (vnQ M i b e 0) .fin)
def PL (M:Mo) (i:Nat) (b:Bool) (e:Int):aC:=
 (.call ⟨44,[.agg (abG AV.p M.aJ),.agg [.p (.ps (aD (aB (aeR aX M.els) (aK i*2))) (bh (aB (aeR aX M.els) (aK i*2))) (au (aB (aeR aX M.els) (aK i*2)))),.p (.ps (aD (aB (aeR aX M.els) (aK i*2+1))) (bh (aB (aeR aX M.els) (aK i*2+1))) (au (aB (aeR aX M.els) (aK i*2+1))))],.fn (adL 34) [] []],[],.aA [sI .i64 e,sI .i64 0],[]⟩
 (.must (bp (↑i:Int) M.els.length&&true&&true&&(bB (aB (aeR aX M.els) (aK i*2))&&(bB (aB (aeR aX M.els) (aK i*2+1))&&true)&&true&&true)&&true)
 (.must true
 (.out (.ret (.aA [sI .i64 e,sI .i64 0]) [.pc M.aJ,.ac [.fn (adL 34) [] []]])))))
theorem Ub (M:Mo) (i:Nat) (b:Bool) (e:Int):aH ab5 env adi 1000000 43 ([sI rn (↑i:Int),AV.mp 0 0,AV.mp 1 0]) ([aU.pc M.aJ,aU.ac [AV.fn (adL 34) [] []]]) (agV M i b e)=PL M i b e:=by kernel_rfl
def adj (M:Mo) (i:Nat) (p q e a:Int) (b:Bool):bD:=aQ (vzC M i p q e a b) av [] [] []
def agW:Sc:= .fin
def YT (M:Mo) (i:Nat) (p q e a:Int) (b:Bool):aC:=
 (.call ⟨46,[.agg (abG AV.p M.aJ),sI .i64 (↑i:Int)],[],.aA [sI .i64 e,sI .i64 a],[]⟩
 (.out (.ret (.aA [sI .i64 e,sI .i64 a]) [.pc M.aJ])))
theorem Uc (M:Mo) (i:Nat) (p q e a:Int) (b:Bool):aH ab5 env (adj M i p q e a b) 1000000 45 ([sI rn (↑i:Int),AV.mp 0 0]) ([aU.pc M.aJ]) agW=YT M i p q e a b:=by kernel_rfl
def adk (M:Mo) (i:Nat) (p q e a:Int) (b:Bool):bD:=aQ (vzC M i p q e a b) av [] [(41,0,0)] []
def agX:Sc:= .fin
def G7 (M:Mo) (i:Nat) (p q e a:Int) (b:Bool):aC:=
 (.call ⟨42,[.agg (abG AV.p M.aJ),sI .u32 M.sn],[],.aA [.agg [sI .i64 p,sI .i64 q],.p (.sc (.bool b))],[]⟩
 (.test (!b)
 (.out (.ret (.aA [sI .i64 6,sI .i64 0]) [.pc M.aJ]))
 (.call ⟨37,[.p (.sc (.bool ((fun r=>p==0&&r) ((fun r=>q==0&&r) true)))),sI .i64 213],[],.aA [sI .i64 e,sI .i64 a],[]⟩
 (.out (.ret (.aA [sI .i64 e,sI .i64 a]) [.pc M.aJ])))))
theorem Jd (M:Mo) (i:Nat) (p q e a:Int) (b:Bool):aH ab5 env (adk M i p q e a b) 1000000 41 ([sI rn (↑i:Int),AV.mp 0 0]) ([aU.pc M.aJ]) agX=G7 M i p q e a b:=by kernel_rfl
def adl (M:Mo) (l:List Ins) (fs:List Int) (b:Bool):bD:=aQ (vqC M l fs b) av [(44,2)] [(44,0,0),(44,0,1)] []
def agY:Sc:= .fin
def PM (M:Mo) (l:List Ins) (fs:List Int) (b:Bool):aC:=
 (.test ((↑M.cj.length:Int)==0)
 (.out (.ret (.aA [sI .i64 6,sI .i64 0]) []))
 (.call ⟨34,[.p (.ps l.length 8 (aq l))],[],.p (.sc (.bool b)),[]⟩
 (.test (!b)
 (.out (.ret (.aA [sI .i64 210,sI .i64 0]) []))
 (.at (ak ab5 env 44 2 [.mp 0 0,.p (.ps fs.length 1 (dw abb fs)),sI .i64 (↑fs.length:Int),sI .i64 0] ([.pc M.aJ]) 0 40)))))
theorem Ud (M:Mo) (l:List Ins) (fs:List Int) (b:Bool):aH ab5 env (adl M l fs b) 1000000 44 ([AV.agg (abG AV.p M.aJ),AV.agg [aL l,AV.p (PV.ps fs.length 1 (dw abb fs))],AV.fn (adL 34) [] []]) ([]) agY=PM M l fs b:=by kernel_rfl
def mT (l:List Ins):Int:=match l with
 |[.mk op _ _ _ _ _ _ _]=>if op=65 then(if iA vr l=0 then 0 else 210) else 210
 |_=>210
theorem yO (l:List Ins) (h:cS l≤100000000000) : ∃u,an ab5 env 22 [aL l] [] (.aA [sI .u32 u,sI .i64 (mT l)]) []:=by
 have hc:=yh Bc l h
 match l,hc with
 |[],hc=>exact⟨0,af aM (rO [] 0) (by simp[PG,bN,aC.ok];rfl)⟩
 |x::y::r,hc=>
  have e:mT (x::y::r)=210:=by simp[mT]
  rw[e]
  exact⟨0,af aM (rO (x::y::r) 0) ⟨fun _=>rfl,fun q=>by simp at q;omega⟩⟩
 |[.mk op r a b n tg ll le],hc=>
  by_cases ho:op=65
  · subst ho
    by_cases z:iA vr [.mk 65 r a b n tg ll le]=0
    · have e:mT [.mk 65 r a b n tg ll le]=0:=by simp[mT,z]
      rw[z] at hc
      rw[e]
      exact⟨abb.wrap n,af aM (rO _ 0) ⟨fun q=>by simp at q,fun _=>⟨rfl,rfl,fun q=>absurd (show((65:Int) != 65)=true from q) (by decide),fun _=>⟨hc,fun q=>by simp at q,fun _=>⟨rfl,rfl,rfl⟩⟩⟩⟩⟩
    · have e:mT [.mk 65 r a b n tg ll le]=210:=by simp[mT,z]
      rw[e]
      exact⟨0,af aM (rO _ _) ⟨fun q=>by simp at q,fun _=>⟨rfl,rfl,fun q=>absurd (show((65:Int) != 65)=true from q) (by decide),fun _=>⟨hc,fun _=>rfl,fun q=>absurd (by simpa using q) z⟩⟩⟩⟩
  · have e:mT [.mk op r a b n tg ll le]=210:=by simp[mT,ho]
    rw[e]
    exact⟨0,af aM (rO _ 0) ⟨fun q=>by simp at q,fun _=>⟨rfl,rfl,fun _=>rfl,fun q=>absurd (show(op != 65)=false from q) (by simpa using ho)⟩⟩⟩
theorem mE (l:List Ins) (h:cS l≤100000000000):an ab5 env 34 [aL l] [] (sB (mT l==0)) []:=by
 obtain⟨u,k⟩:=yO l h
 refine af aM (T8 l u (mT l)) ?_
 simp only[PI,aC.ok]
 exact⟨k,(by first | exact afb | rfl)⟩
def PN (l:List Ins):Int:=if(mT l==0)=true then 0 else 210
theorem Ue (M:Mo) {i:Nat} (hi:i<M.gls.length) (h:cS M.gls[i].l≤100000000000):an ab5 env 39 [sI .i64 i,.mp 0 0,.mp 1 0] (EW M) (.aA [sI .i64 (PN M.gls[i].l),sI .i64 0]) (EW M):=by
 have hx:M.gls[i]? = some M.gls[i]:=bm hi
 have c:=bq (z:=2) (enc:=aY) (fun _=>rfl) hx
 have c0:(M.gls.flatMap aY).getD (i*2+1) .bK = .ps M.gls[i].l.length 8 (aq M.gls[i].l):=c 1 (by decide)
 have hin:bp (i:Int) M.gls.length=true:=by simp only[bp,ch,decide_eq_true_eq];omega
 refine af aM (T9 M i (mT M.gls[i].l==0) (PN M.gls[i].l)) ?_
 simp only[PJ,bN,aC.ok,bB,aD,bh,au,aep,c0,hin,aeU,ae2]
 exact⟨mE _ h,eE _ 210,(by first | rfl | trivial),(by first | rfl | trivial),(by first | rfl | trivial)⟩
theorem Uf (M:Mo) {i:Nat} (hi:i<M.bt.length) (h:cS M.bt[i].l≤100000000000):an ab5 env 47 [sI .i64 i,.mp 0 0,.mp 1 0] (Aa M) (.aA [sI .i64 (if M.cM.length=0 then 6 else PN M.bt[i].l),sI .i64 0]) (Aa M):=by
 have hx:M.bt[i]? = some M.bt[i]:=bm hi
 have c:=bq (z:=2) (enc:=bg) (fun _=>rfl) hx
 have c0:(M.bt.flatMap bg).getD (i*2+0) .bK = .ps M.bt[i].l.length 8 (aq M.bt[i].l):=c 0 (by decide)
 have hin:bp (i:Int) M.bt.length=true:=by simp only[bp,ch,decide_eq_true_eq];omega
 refine af aM (Ua M i (mT M.bt[i].l==0) (PN M.bt[i].l)) ?_
 simp only[PK,bN,aC.ok,bB,aD,bh,au,aep,c0,hin,aeU,ae2]
 by_cases z:M.cM.length=0
 · rw[if_pos z]
   exact⟨fun _=>(by first | exact⟨afb,rfl⟩ | rfl),fun q=>absurd z (by intro e;simp[e] at q)⟩
 · rw[if_neg z]
   exact⟨fun q=>absurd (by simpa using q) z,fun _=>⟨mE _ h,eE _ 210,(by first | rfl | trivial),(by first | rfl | trivial),(by first | rfl | trivial)⟩⟩
end Go.Proofs.YtjfgfhaoeicpdaaGreatDoor.N
end
section
namespace Go.Am
open Go.RowKit
section
variable {P:Program} {E:Env} {g:Gh} {m:Mem} {w:World}
theorem Rel.Ug (h:Rel g m w) {i:Nat} {k k':aG} {l:List AV} (hb:m[i]? = some (.ob k l)) (hk : ∀ob vs,k.is ob vs→k'.is ob vs) (hr : ∀ob n,k'.room ob n) :
  Rel g (m.set i (.ob k' l)) w∧dc g m w g (m.set i (.ob k' l)) w:=by
 have own : ∀(j:Nat) (x:aU),(m.set i (.ob k' l))[j]? = some x→x.dz=true → ∃y:aU,m[j]? = some y∧y.dz=true:=fun j x hj ho=>by
  rcases aP hj with⟨rfl,_⟩ | ⟨_,q⟩
  · exact⟨_,hb,rfl⟩
  · exact⟨x,q,ho⟩
 refine⟨⟨fun j hj=>h.vJ j (by simpa using hj),fun j hj=> ?_,fun j x cs hj hx=> ?_,fun j c hj hc=> ?_,fun j q x x' c hj hq ho ho' hc fm=> ?_,h.there,fun j k1 l1 hj=> ?_⟩,
  ⟨Nat.le_refl _,fun _ _ _=>rfl,fun _ _ p=>⟨p,rfl⟩,fun _ _ p=> .inl p,fun c ho=> ?_,rfl,rfl,rfl⟩⟩
 · rcases aP hj with⟨_,q⟩ | ⟨_,q⟩
   · cases q
   · exact h.free j q
 · rcases aP hj with⟨_,rfl⟩ | ⟨_,q⟩
   · cases hx
   · exact h.cells j x cs q hx
 · rcases aP hj with⟨_,q⟩ | ⟨_,q⟩
   · cases q
   · exact h.tok j c q hc
 · obtain⟨y,y1,y2⟩:=own j x hj ho
   obtain⟨z,z1,z2⟩:=own q x' hq ho'
   exact h.inj j q y z c y1 z1 y2 z2 hc fm
 · rcases aP hj with⟨rfl,q⟩ | ⟨_,q⟩
   · cases q
     obtain⟨c,o,vs,k1,k2,k3,k4,k5,k6⟩:=h.obs _ _ _ hb
     exact⟨c,o,vs,k1,k2,k3,hk _ _ k4,k5,hr _ _⟩
   · exact h.obs j k1 l1 q
 · obtain⟨j,x,hj,hx,hc⟩:=ho
   obtain⟨y,y1,y2⟩:=own j x hj hx
   exact .inl ⟨j,y,y1,y2,hc⟩
theorem bR.more {c:cm} {s:ByteArray} {i:Nat} {o:Out} (hm:c.st.mem=[.ob (.iter s i) []]) (hc:CE c=true)
  (h:bR P E {c with st:={c.st with mem:=[.ob (.Sr s i (Nat.blt i s.size)) []]}} o):bR P E c o:=by
 refine bR.bz (fun g fr w hr cs=> ?_) h
 obtain⟨f,todo,st⟩:=c
 obtain⟨tm,nt,mem,fix,cw,b9⟩:=st
 dsimp only at hm
 subst hm
 match todo,hc with
 |.code j x::k,_=>
  obtain⟨b,a,q1,q2,q3,q4,q5,q6⟩:=hr
  obtain⟨n1,n2⟩:=q5.rel.Ug (i:=0) (k':= .Sr s i (Nat.blt i s.size)) rfl (fun ob vs e=>⟨e.1,e.2,rfl⟩) fun _ _=>trivial
  exact⟨g,fr,w,Steps.refl _ _,⟨b,a,q1,q2,q3,q4,⟨q5.tm,q5.nt,n1,q5.fix,q5.cQ⟩,q6⟩,n2,fun _ _ _ fm=>⟨fm,rfl,rfl⟩,rfl,rfl,rfl⟩
end
end Go.Am
end
