import Derived.Test.YtdmmllcjgjmbbaaGreatDoorPF
import Derived.Test.YtdmmllcjgjmbbaaGreatDoorPH
import Derived.Test.YtdmmllcjgjmbbaaGreatDoorPE
import Derived.Test.YtdmmllcjgjmbbaaGreatDoorRows
import Derived.MakeChecks
open Nat renaming ble_eq→aey,le_refl→aw,zero_add→ri,le_of_ble_eq_true→ae,beq_eq→bc,beq→ai,reduceAdd→aex,ble→ar,add_assoc→bm,zero_mul→aeA,zero_le→acb,mul_one→aez
open Go.Proofs.Tryz renaming prog→aeB
open Go.IntKind renaming i64→tp,u32→acU,u8→aeZ,i32→aeY
open Option renaming none→aeE,some→aeF
open List renaming flatMap→adw,getElem?_eq_some_iff→dt,mem_of_getElem?→mf,nil_append→H0,getElem?_eq_getElem→df,map→adP,length_append→du,getElem?_map→en,flatMap_append→aeq,take_succ_eq_append_getElem→ag8,map_cons→mi,getD_eq_getElem?_getD→de,getElem?_cons_zero→ml,getElem?_cons_succ→mr,length_pos_of_mem→ag9,getElem?_take→di,getElem?_drop→dq,not_mem_nil→aha,mem_cons→pB
open Int renaming toNat_natCast→aeL,one_ne_zero→ahb
open Option.some renaming injEq→kb
open List.cons renaming injEq→ahc,inj→ahd
open Bool renaming and_true→aeN,true_eq_false→ag1,and_eq_true→jn,true_and→aeO,false_eq_true→pD,not_eq_false'→afe,or_eq_true→j1,and_self→ag2,not_eq_true'→ka,not_true→xv,and_eq_false_iff→ahe,eq_iff_iff→aeM
open Go.Value renaming int→vd
open Go.Utf8 renaming decode→afp
open Array renaming getElem?_toList→mb,length_toList→ie
open Go.Lib renaming decodeN→afC,decode_at→afG
open Go.DataW renaming weightsEach→ahf,weights→ahh,trod_struct→ahi,trod_int→acE,trod→acB
open Go.Lib.laidMet renaming reads→ahj
noncomputable section
set_option linter.unusedVariables false
set_option linter.unusedSimpArgs false
set_option linter.unusedSectionVars false
section
namespace Go.Proofs.YtdmmllcjgjmbbaaGreatDoor.N
open Go Go.Am
def MM (f:FuncId) (args:List AV) (m:Mem):Option (AV×Mem):=cond (ai f 24) (match args with|[v]=>some (v,m)|_=>none) none
theorem Jb (l:List Ins):aE aeB env (aJ aB av [(24,0)] [] []) 1000000 24 ([aL l]) ([]) (.fin) =
(.at (ah aeB env 24 0 [.p (.ps l.length 8 (ak l)),bP,sI .i64 0] ([]) 0 34)):=by kernel_rfl
abbrev EV (x0:List Ins) (x1:Int):Bool:=isInt tp (aA (ak x0) (x1.toNat*8))&&(isInt tp (aA (ak x0) (x1.toNat*8+1))&&(isInt acU (aA (ak x0) (x1.toNat*8+1+1))&&(isInt acU (aA (ak x0) (x1.toNat*8+1+1+1))&&(isInt aeY (aA (ak x0) (x1.toNat*8+1+1+1+1))&&(aX (aA (ak x0) (x1.toNat*8+1+1+1+1+1))&&(aX (aA (ak x0) (x1.toNat*8+1+1+1+1+1+1))&&(aX (aA (ak x0) (x1.toNat*8+1+1+1+1+1+1+1))&&true)))))))&&true
abbrev EW (x0:List Ins) (x1:Int):AV:= .p (.ps (aq (.ps (aq (aA (ak x0) (x1.toNat*8+1+1+1+1+1+1))) (aK (aA (ak x0) (x1.toNat*8+1+1+1+1+1+1))) (aj (aA (ak x0) (x1.toNat*8+1+1+1+1+1+1))))) (aK (.ps (aq (aA (ak x0) (x1.toNat*8+1+1+1+1+1+1))) (aK (aA (ak x0) (x1.toNat*8+1+1+1+1+1+1))) (aj (aA (ak x0) (x1.toNat*8+1+1+1+1+1+1))))) (aj (.ps (aq (aA (ak x0) (x1.toNat*8+1+1+1+1+1+1))) (aK (aA (ak x0) (x1.toNat*8+1+1+1+1+1+1))) (aj (aA (ak x0) (x1.toNat*8+1+1+1+1+1+1))))))
abbrev EX (x0:List Ins) (x1:Int):List AV:=[.p (.ps (aq (.ps (aq (aA (ak x0) (x1.toNat*8+1+1+1+1+1+1))) (aK (aA (ak x0) (x1.toNat*8+1+1+1+1+1+1))) (aj (aA (ak x0) (x1.toNat*8+1+1+1+1+1+1))))) (aK (.ps (aq (aA (ak x0) (x1.toNat*8+1+1+1+1+1+1))) (aK (aA (ak x0) (x1.toNat*8+1+1+1+1+1+1))) (aj (aA (ak x0) (x1.toNat*8+1+1+1+1+1+1))))) (aj (.ps (aq (aA (ak x0) (x1.toNat*8+1+1+1+1+1+1))) (aK (aA (ak x0) (x1.toNat*8+1+1+1+1+1+1))) (aj (aA (ak x0) (x1.toNat*8+1+1+1+1+1+1))))))]
abbrev EY (x0:List Ins) (x1:Int):AV:= .p (.ps (aq (.ps (aq (aA (ak x0) (x1.toNat*8+1+1+1+1+1+1+1))) (aK (aA (ak x0) (x1.toNat*8+1+1+1+1+1+1+1))) (aj (aA (ak x0) (x1.toNat*8+1+1+1+1+1+1+1))))) (aK (.ps (aq (aA (ak x0) (x1.toNat*8+1+1+1+1+1+1+1))) (aK (aA (ak x0) (x1.toNat*8+1+1+1+1+1+1+1))) (aj (aA (ak x0) (x1.toNat*8+1+1+1+1+1+1+1))))) (aj (.ps (aq (aA (ak x0) (x1.toNat*8+1+1+1+1+1+1+1))) (aK (aA (ak x0) (x1.toNat*8+1+1+1+1+1+1+1))) (aj (aA (ak x0) (x1.toNat*8+1+1+1+1+1+1+1))))))
abbrev EZ (x0:List Ins) (x1:Int):List AV:=[.p (.ps (aq (.ps (aq (aA (ak x0) (x1.toNat*8+1+1+1+1+1+1+1))) (aK (aA (ak x0) (x1.toNat*8+1+1+1+1+1+1+1))) (aj (aA (ak x0) (x1.toNat*8+1+1+1+1+1+1+1))))) (aK (.ps (aq (aA (ak x0) (x1.toNat*8+1+1+1+1+1+1+1))) (aK (aA (ak x0) (x1.toNat*8+1+1+1+1+1+1+1))) (aj (aA (ak x0) (x1.toNat*8+1+1+1+1+1+1+1))))) (aj (.ps (aq (aA (ak x0) (x1.toNat*8+1+1+1+1+1+1+1))) (aK (aA (ak x0) (x1.toNat*8+1+1+1+1+1+1+1))) (aj (aA (ak x0) (x1.toNat*8+1+1+1+1+1+1+1))))))]
abbrev E0 (x0:List Ins) (x1:Int):Bool:=((aK (.ps (aq (aA (ak x0) (x1.toNat*8+1+1+1+1+1))) (aK (aA (ak x0) (x1.toNat*8+1+1+1+1+1))) (aj (aA (ak x0) (x1.toNat*8+1+1+1+1+1))))).beq 1||(aq (.ps (aq (aA (ak x0) (x1.toNat*8+1+1+1+1+1))) (aK (aA (ak x0) (x1.toNat*8+1+1+1+1+1))) (aj (aA (ak x0) (x1.toNat*8+1+1+1+1+1))))).beq 0&&ar 1 1)&&true&&true&&true&&((0+aq (.ps (aq (aA (ak x0) (x1.toNat*8+1+1+1+1+1))) (aK (aA (ak x0) (x1.toNat*8+1+1+1+1+1))) (aj (aA (ak x0) (x1.toNat*8+1+1+1+1+1)))))*4).ble eY&&(0+aq (.ps (aq (aA (ak x0) (x1.toNat*8+1+1+1+1+1))) (aK (aA (ak x0) (x1.toNat*8+1+1+1+1+1))) (aj (aA (ak x0) (x1.toNat*8+1+1+1+1+1))))).ble eY&&true
theorem E1 (l:List Ins) (i:Int):grow aeB env (aJ MM av [(24,0)] [(24,0,1)] (fm 24 [(6,2),(6,3),(7,3)])) 1000000 true (ah aeB env 24 0 ([aL l,AV.os aeE 0 0 [],sI tp i]) ([]) 0 34) (.fin) atEnd =
(.test (decide (i<(↑l.length:Int)))
 (.must (bE i l.length&&true&&true)
 (.must ((EV l i))
 (.must ((E0 l i))
 (.call ⟨24,(EX l i),[],(EW l i),[]⟩
 (.call ⟨24,(EZ l i),[],(EY l i),[]⟩
 (.at (ah aeB env 24 0 [.p (.ps l.length 8 (ak l)),.os (some 0) 1 8 [sP (au (sP (au (aA (ak l) (i.toNat*8))))),sP (au (sP (au (aA (ak l) (i.toNat*8+1))))),.sc (.int .u32 (au (.sc (.int .u32 (au (aA (ak l) (i.toNat*8+1+1))))))),.sc (.int .u32 (au (.sc (.int .u32 (au (aA (ak l) (i.toNat*8+1+1+1))))))),.sc (.int .i32 (au (.sc (.int .i32 (au (aA (ak l) (i.toNat*8+1+1+1+1))))))),.ps (0+aq (.ps (aq (aA (ak l) (i.toNat*8+1+1+1+1+1))) (aK (aA (ak l) (i.toNat*8+1+1+1+1+1))) (aj (aA (ak l) (i.toNat*8+1+1+1+1+1))))) 1 ([]++aj (.ps (aq (aA (ak l) (i.toNat*8+1+1+1+1+1))) (aK (aA (ak l) (i.toNat*8+1+1+1+1+1))) (aj (aA (ak l) (i.toNat*8+1+1+1+1+1))))),.ps (aq (.ps (aq (.ps (aq (aA (ak l) (i.toNat*8+1+1+1+1+1+1))) (aK (aA (ak l) (i.toNat*8+1+1+1+1+1+1))) (aj (aA (ak l) (i.toNat*8+1+1+1+1+1+1))))) (aK (.ps (aq (aA (ak l) (i.toNat*8+1+1+1+1+1+1))) (aK (aA (ak l) (i.toNat*8+1+1+1+1+1+1))) (aj (aA (ak l) (i.toNat*8+1+1+1+1+1+1))))) (aj (.ps (aq (aA (ak l) (i.toNat*8+1+1+1+1+1+1))) (aK (aA (ak l) (i.toNat*8+1+1+1+1+1+1))) (aj (aA (ak l) (i.toNat*8+1+1+1+1+1+1))))))) (aK (.ps (aq (.ps (aq (aA (ak l) (i.toNat*8+1+1+1+1+1+1))) (aK (aA (ak l) (i.toNat*8+1+1+1+1+1+1))) (aj (aA (ak l) (i.toNat*8+1+1+1+1+1+1))))) (aK (.ps (aq (aA (ak l) (i.toNat*8+1+1+1+1+1+1))) (aK (aA (ak l) (i.toNat*8+1+1+1+1+1+1))) (aj (aA (ak l) (i.toNat*8+1+1+1+1+1+1))))) (aj (.ps (aq (aA (ak l) (i.toNat*8+1+1+1+1+1+1))) (aK (aA (ak l) (i.toNat*8+1+1+1+1+1+1))) (aj (aA (ak l) (i.toNat*8+1+1+1+1+1+1))))))) (aj (.ps (aq (.ps (aq (aA (ak l) (i.toNat*8+1+1+1+1+1+1))) (aK (aA (ak l) (i.toNat*8+1+1+1+1+1+1))) (aj (aA (ak l) (i.toNat*8+1+1+1+1+1+1))))) (aK (.ps (aq (aA (ak l) (i.toNat*8+1+1+1+1+1+1))) (aK (aA (ak l) (i.toNat*8+1+1+1+1+1+1))) (aj (aA (ak l) (i.toNat*8+1+1+1+1+1+1))))) (aj (.ps (aq (aA (ak l) (i.toNat*8+1+1+1+1+1+1))) (aK (aA (ak l) (i.toNat*8+1+1+1+1+1+1))) (aj (aA (ak l) (i.toNat*8+1+1+1+1+1+1))))))),.ps (aq (.ps (aq (.ps (aq (aA (ak l) (i.toNat*8+1+1+1+1+1+1+1))) (aK (aA (ak l) (i.toNat*8+1+1+1+1+1+1+1))) (aj (aA (ak l) (i.toNat*8+1+1+1+1+1+1+1))))) (aK (.ps (aq (aA (ak l) (i.toNat*8+1+1+1+1+1+1+1))) (aK (aA (ak l) (i.toNat*8+1+1+1+1+1+1+1))) (aj (aA (ak l) (i.toNat*8+1+1+1+1+1+1+1))))) (aj (.ps (aq (aA (ak l) (i.toNat*8+1+1+1+1+1+1+1))) (aK (aA (ak l) (i.toNat*8+1+1+1+1+1+1+1))) (aj (aA (ak l) (i.toNat*8+1+1+1+1+1+1+1))))))) (aK (.ps (aq (.ps (aq (aA (ak l) (i.toNat*8+1+1+1+1+1+1+1))) (aK (aA (ak l) (i.toNat*8+1+1+1+1+1+1+1))) (aj (aA (ak l) (i.toNat*8+1+1+1+1+1+1+1))))) (aK (.ps (aq (aA (ak l) (i.toNat*8+1+1+1+1+1+1+1))) (aK (aA (ak l) (i.toNat*8+1+1+1+1+1+1+1))) (aj (aA (ak l) (i.toNat*8+1+1+1+1+1+1+1))))) (aj (.ps (aq (aA (ak l) (i.toNat*8+1+1+1+1+1+1+1))) (aK (aA (ak l) (i.toNat*8+1+1+1+1+1+1+1))) (aj (aA (ak l) (i.toNat*8+1+1+1+1+1+1+1))))))) (aj (.ps (aq (.ps (aq (aA (ak l) (i.toNat*8+1+1+1+1+1+1+1))) (aK (aA (ak l) (i.toNat*8+1+1+1+1+1+1+1))) (aj (aA (ak l) (i.toNat*8+1+1+1+1+1+1+1))))) (aK (.ps (aq (aA (ak l) (i.toNat*8+1+1+1+1+1+1+1))) (aK (aA (ak l) (i.toNat*8+1+1+1+1+1+1+1))) (aj (aA (ak l) (i.toNat*8+1+1+1+1+1+1+1))))) (aj (.ps (aq (aA (ak l) (i.toNat*8+1+1+1+1+1+1+1))) (aK (aA (ak l) (i.toNat*8+1+1+1+1+1+1+1))) (aj (aA (ak l) (i.toNat*8+1+1+1+1+1+1+1)))))))],sI .i64 (tp.wrap (i+1))] ([.tok]) 0 34)))))))
 (.out (.ret (bP) []))):=by kernel_rfl
theorem E2 (l:List Ins) (k:Nat) (cs:List PV) (i:Int):grow aeB env (aJ MM av [(24,0)] [(24,0,1)] (fm 24 [(6,2),(6,3),(7,3),(10,3)])) 1000000 true (ah aeB env 24 0 ([aL l,AV.os (aeF 0) k 8 cs,sI tp i]) ([bf.tok]) 0 34) (.fin) atEnd =
(.test (decide (i<(↑l.length:Int)))
 (.must (bE i l.length&&true&&true)
 (.must ((EV l i))
 (.must ((E0 l i))
 (.call ⟨24,(EX l i),[],(EW l i),[]⟩
 (.call ⟨24,(EZ l i),[],(EY l i),[]⟩
 (.must (((k+1)*104).ble eY&&(k+1).ble eY&&true)
 (.at (ah aeB env 24 0 [.p (.ps l.length 8 (ak l)),.os (some 0) (k+1) 8 (cs++[sP (au (sP (au (aA (ak l) (i.toNat*8))))),sP (au (sP (au (aA (ak l) (i.toNat*8+1))))),.sc (.int .u32 (au (.sc (.int .u32 (au (aA (ak l) (i.toNat*8+1+1))))))),.sc (.int .u32 (au (.sc (.int .u32 (au (aA (ak l) (i.toNat*8+1+1+1))))))),.sc (.int .i32 (au (.sc (.int .i32 (au (aA (ak l) (i.toNat*8+1+1+1+1))))))),.ps (0+aq (.ps (aq (aA (ak l) (i.toNat*8+1+1+1+1+1))) (aK (aA (ak l) (i.toNat*8+1+1+1+1+1))) (aj (aA (ak l) (i.toNat*8+1+1+1+1+1))))) 1 ([]++aj (.ps (aq (aA (ak l) (i.toNat*8+1+1+1+1+1))) (aK (aA (ak l) (i.toNat*8+1+1+1+1+1))) (aj (aA (ak l) (i.toNat*8+1+1+1+1+1))))),.ps (aq (.ps (aq (.ps (aq (aA (ak l) (i.toNat*8+1+1+1+1+1+1))) (aK (aA (ak l) (i.toNat*8+1+1+1+1+1+1))) (aj (aA (ak l) (i.toNat*8+1+1+1+1+1+1))))) (aK (.ps (aq (aA (ak l) (i.toNat*8+1+1+1+1+1+1))) (aK (aA (ak l) (i.toNat*8+1+1+1+1+1+1))) (aj (aA (ak l) (i.toNat*8+1+1+1+1+1+1))))) (aj (.ps (aq (aA (ak l) (i.toNat*8+1+1+1+1+1+1))) (aK (aA (ak l) (i.toNat*8+1+1+1+1+1+1))) (aj (aA (ak l) (i.toNat*8+1+1+1+1+1+1))))))) (aK (.ps (aq (.ps (aq (aA (ak l) (i.toNat*8+1+1+1+1+1+1))) (aK (aA (ak l) (i.toNat*8+1+1+1+1+1+1))) (aj (aA (ak l) (i.toNat*8+1+1+1+1+1+1))))) (aK (.ps (aq (aA (ak l) (i.toNat*8+1+1+1+1+1+1))) (aK (aA (ak l) (i.toNat*8+1+1+1+1+1+1))) (aj (aA (ak l) (i.toNat*8+1+1+1+1+1+1))))) (aj (.ps (aq (aA (ak l) (i.toNat*8+1+1+1+1+1+1))) (aK (aA (ak l) (i.toNat*8+1+1+1+1+1+1))) (aj (aA (ak l) (i.toNat*8+1+1+1+1+1+1))))))) (aj (.ps (aq (.ps (aq (aA (ak l) (i.toNat*8+1+1+1+1+1+1))) (aK (aA (ak l) (i.toNat*8+1+1+1+1+1+1))) (aj (aA (ak l) (i.toNat*8+1+1+1+1+1+1))))) (aK (.ps (aq (aA (ak l) (i.toNat*8+1+1+1+1+1+1))) (aK (aA (ak l) (i.toNat*8+1+1+1+1+1+1))) (aj (aA (ak l) (i.toNat*8+1+1+1+1+1+1))))) (aj (.ps (aq (aA (ak l) (i.toNat*8+1+1+1+1+1+1))) (aK (aA (ak l) (i.toNat*8+1+1+1+1+1+1))) (aj (aA (ak l) (i.toNat*8+1+1+1+1+1+1))))))),.ps (aq (.ps (aq (.ps (aq (aA (ak l) (i.toNat*8+1+1+1+1+1+1+1))) (aK (aA (ak l) (i.toNat*8+1+1+1+1+1+1+1))) (aj (aA (ak l) (i.toNat*8+1+1+1+1+1+1+1))))) (aK (.ps (aq (aA (ak l) (i.toNat*8+1+1+1+1+1+1+1))) (aK (aA (ak l) (i.toNat*8+1+1+1+1+1+1+1))) (aj (aA (ak l) (i.toNat*8+1+1+1+1+1+1+1))))) (aj (.ps (aq (aA (ak l) (i.toNat*8+1+1+1+1+1+1+1))) (aK (aA (ak l) (i.toNat*8+1+1+1+1+1+1+1))) (aj (aA (ak l) (i.toNat*8+1+1+1+1+1+1+1))))))) (aK (.ps (aq (.ps (aq (aA (ak l) (i.toNat*8+1+1+1+1+1+1+1))) (aK (aA (ak l) (i.toNat*8+1+1+1+1+1+1+1))) (aj (aA (ak l) (i.toNat*8+1+1+1+1+1+1+1))))) (aK (.ps (aq (aA (ak l) (i.toNat*8+1+1+1+1+1+1+1))) (aK (aA (ak l) (i.toNat*8+1+1+1+1+1+1+1))) (aj (aA (ak l) (i.toNat*8+1+1+1+1+1+1+1))))) (aj (.ps (aq (aA (ak l) (i.toNat*8+1+1+1+1+1+1+1))) (aK (aA (ak l) (i.toNat*8+1+1+1+1+1+1+1))) (aj (aA (ak l) (i.toNat*8+1+1+1+1+1+1+1))))))) (aj (.ps (aq (.ps (aq (aA (ak l) (i.toNat*8+1+1+1+1+1+1+1))) (aK (aA (ak l) (i.toNat*8+1+1+1+1+1+1+1))) (aj (aA (ak l) (i.toNat*8+1+1+1+1+1+1+1))))) (aK (.ps (aq (aA (ak l) (i.toNat*8+1+1+1+1+1+1+1))) (aK (aA (ak l) (i.toNat*8+1+1+1+1+1+1+1))) (aj (aA (ak l) (i.toNat*8+1+1+1+1+1+1+1))))) (aj (.ps (aq (aA (ak l) (i.toNat*8+1+1+1+1+1+1+1))) (aK (aA (ak l) (i.toNat*8+1+1+1+1+1+1+1))) (aj (aA (ak l) (i.toNat*8+1+1+1+1+1+1+1)))))))]),sI .i64 (tp.wrap (i+1))] ([.tok]) 0 34))))))))
 (.out (.ret (.os (some 0) k 8 cs) [.tok]))):=by kernel_rfl
theorem O7 (l:List Ins) (hc:gx l≤1000000) (IH : ∀x∈l,an aeB env 24 [aL x.l] [] (aL x.l) []∧an aeB env 24 [aL x.e] [] (aL x.e) []) :
  ∀(r k:Nat),k+r=l.length→bp aeB env (ah aeB env 24 0 [aL l,.os (some 0) k 8 (ak (l.take k)),sI .i64 k] [.tok] 0 34) (.ret (.os (some 0) l.length 8 (ak l)) [.tok]):=by
 intro r
 induction r with
 |zero=>
  intro k hk
  refine af aI (E2 l k (ak (l.take k)) k) ?_
  have h2 : ¬((k:Int)<l.length):=by omega
  have h3:k=l.length:=by omega
  subst h3
  simp[E0,EZ,EY,EX,EW,EV,br,aG.ok]
 |succ r ih=>
  intro k hk
  refine af aI (E2 l k (ak (l.take k)) k) ?_
  have nM:k<l.length:=by omega
  have CT:l[k]? = some l[k]:=df nM
  have hmem:l[k]∈l:=List.getElem_mem nM
  have ht:l.take (k+1)=l.take k++[l[k]]:=ag8 nM
  have ih:=ih (k+1) (by omega)
  rw[ht,zj,QX] at ih
  generalize l[k]=x at *
  obtain⟨op,rs,a,b,nn,tags,ll,le⟩:=x
  obtain⟨c0,c1,c2,c3,c4,c5,c6,c7⟩:=hY CT
  have uq:=IH _ hmem
  have hcx:=nq hmem
  have MZ:=rT l
  simp only[uM] at hcx
  have hw:=fk k (by omega)
  have BS:(k:Int)<(l.length:Int):=by omega
  have BI:eY=70368744177664:=rfl
  simp only[E0,EZ,EY,EX,EW,EV,br,aG.ok,bm,aex,c0,c1,c2,c3,c4,c5,c6,c7,aq,aK,aj,aX,isInt,au,aeL,bE,hw]
  refine⟨fun _=>⟨by simp[BS],by simp,by simp;omega,uq.1,uq.2,by simp;omega,?_⟩,fun h=>absurd BS (by simpa using h)⟩
  simpa[xV] using ih
theorem Lr (x:Ins) (l:List Ins) (hc:gx (x::l)≤1000000) (IH : ∀y∈x::l,an aeB env 24 [aL y.l] [] (aL y.l) []∧an aeB env 24 [aL y.e] [] (aL y.e) []) :
  bp aeB env (ah aeB env 24 0 [aL (x::l),.os none 0 0 [],sI .i64 0] [] 0 34) (.ret (.os (some 0) (x::l).length 8 (ak (x::l))) [.tok]):=by
 refine af aI (E1 (x::l) 0) ?_
 have h1:=O7 (x::l) hc IH l.length 1 (by simp;omega)
 have uq:=IH x (.head _)
 have hcx:=nq (.head _:x∈x::l)
 obtain⟨op,rs,a,b,nn,tags,ll,le⟩:=x
 obtain⟨c0,c1,c2,c3,c4,c5,c6,c7⟩:=hY (l:= .mk op rs a b nn tags ll le::l) (k:=0) rfl
 simp only[uM] at hcx
 have hw:tp.wrap ((0:Int)+1)=((1:Nat):Int):=by decide
 have BI:eY=70368744177664:=rfl
 simp only[aeA,ri] at c0 c1 c2 c3 c4 c5 c6 c7
 have z:Int.toNat 0=0:=rfl
 simp only[E0,EZ,EY,EX,EW,EV,br,aG.ok,z,aeA,ri,aex,c0,c1,c2,c3,c4,c5,c6,c7,aq,aK,aj,aX,isInt,au,bE,hw]
 refine⟨fun _=>⟨by simp,by simp,by simp;omega,uq.1,uq.2,?_⟩,fun h=>by simp at h⟩
 simpa[xV,ak,aL,sI] using h1
theorem gP : ∀(N:Nat) (l:List Ins),gx l≤N→gx l≤1000000→an aeB env 24 [aL l] [] (aL l) []
 |N,[],_,_=>by
  refine an.nil (tok:=none) (sz:=0) (m':=[]) ?_ (by omega)
  refine aa aI (Jb []) ?_
  refine af aI (E1 [] 0) ?_
  simp[E0,EZ,EY,EX,EW,EV,br,aG.ok]
 |N,x::l,hN,hc=>by
  have IH : ∀y∈x::l,an aeB env 24 [aL y.l] [] (aL y.l) []∧an aeB env 24 [aL y.e] [] (aL y.e) []:=by
   intro y hy
   have hcy:=nq hy
   obtain⟨op,rs,a,b,nn,tags,ll,le⟩:=y
   simp only[uM] at hcy
   match N,hN with
   |0,hN=>omega
   |N+1,hN=>exact⟨gP N ll (by omega) (by omega),gP N le (by omega) (by omega)⟩
  refine an.pure (tok:=some 0) (m':=[.tok]) ?_
  refine aa aI (Jb (x::l)) ?_
  exact Lr x l hc IH
end Go.Proofs.YtdmmllcjgjmbbaaGreatDoor.N
end
section
namespace Go.Am
open Go.RowKit
section
variable {P:Program} {E:Env} {g:Gh} {m:Mem} {w:World}
def FZ (a b:AV):Prop:= ∀(g:Gh) (w:World) (v:Value),VA g w a v→VA g w b v
theorem FZ.refl (a:AV):FZ a a:=fun _ _ _ h=>h
theorem FZ.os {tok:Option Nat} {n z:Nat} {cs:List PV}:FZ (.os tok n z cs) (.p (.ps n z cs)):=fun g w v hv=>by
 cases hv with
 |os _ _ _ _ a cap h _=>exact .p _ _ h
theorem FZ.nil {tok:Option Nat} {z:Nat} {y:PV} (h:Js (.ps 0 z []) y):FZ (.os tok 0 z []) (.p y):=fun g w v hv=>by
 cases hv with
 |os _ _ _ _ a cap hv _=>exact .p _ _ (h _ _ _ hv)
theorem fzs {l l':List AV} (h:bN FZ l l') (g:Gh) (w:World) : ∀{vs:List Value},dz g w l vs→dz g w l' vs:=by
 induction l generalizing l' with
 |nil=>intro vs hv;cases l' with
  |nil=>exact hv
  |cons _ _=>exact h.elim
 |cons a l ih=>intro vs hv;cases l' with
  |nil=>exact h.elim
  |cons b l'=>cases vs with
   |nil=>exact hv.elim
   |cons v vs=>exact⟨h.1 g w v hv.1,ih h.2 hv.2⟩
theorem Rel.YH (h:Rel g m w) {i:Nat} {l l':List AV} (hb:m[i]? = some (.ac l)) (hl : ∀vs,dz g w l vs→dz g w l' vs) :
  Rel g (m.set i (.ac l')) w∧dU g m w g (m.set i (.ac l')) w:=by
 have own : ∀(j:Nat) (x:bf),(m.set i (.ac l'))[j]? = some x→x.ep=true → ∃y:bf,m[j]? = some y∧y.ep=true:=fun j x hj ho=>by
  rcases bn hj with⟨rfl,_⟩|⟨_,q⟩
  · exact⟨_,hb,rfl⟩
  · exact⟨x,q,ho⟩
 refine⟨⟨fun j hj=>h.Cp j (by simpa using hj),fun j hj=> ?_,fun j x cs hj hx=> ?_,fun j c hj hc=> ?_,fun j q x x' c hj hq ho ho' hc iS=> ?_,h.there,fun j k1 l1 hj=> ?_⟩,
  ⟨aw _,fun _ _ _=>rfl,fun _ _ p=>⟨p,rfl⟩,fun _ _ p=> .inl p,fun c ho=> ?_,rfl,rfl,rfl⟩⟩
 · rcases bn hj with⟨_,q⟩|⟨_,q⟩
   · cases q
   · exact h.free j q
 · rcases bn hj with⟨rfl,rfl⟩|⟨_,q⟩
   · simp only[bf.cells?,kb] at hx
     subst hx
     obtain⟨c',cs',e,q,k1,k2,k3,k4,k5⟩:=h.cells _ _ _ hb rfl
     exact⟨c',cs',e,q,k1,k2,k3,⟨hl _ k4.1,k4.2⟩,k5⟩
   · exact h.cells j x cs q hx
 · rcases bn hj with⟨_,q⟩|⟨_,q⟩
   · cases q
   · exact h.tok j c q hc
 · obtain⟨y,y1,y2⟩:=own j x hj ho
   obtain⟨z,z1,z2⟩:=own q x' hq ho'
   exact h.inj j q y z c y1 z1 y2 z2 hc iS
 · rcases bn hj with⟨_,q⟩|⟨_,q⟩
   · cases q
   · exact h.obs j k1 l1 q
 · obtain⟨j,x,hj,hx,hc⟩:=ho
   obtain⟨y,y1,y2⟩:=own j x hj hx
   exact .inl ⟨j,y,y1,y2,hc⟩
theorem Jc {ρ:Nat→Option Nat} : ∀(tm:zV),tm.map (fun p=>(p.1,kr ρ p.2))=tm → ∀k,kr ρ (look tm k)=look tm k
 |[],_,_=>rfl
 |(j,v)::r,h,k=>by
  simp only[mi,ahc,Prod.mk.injEq,true_and] at h
  unfold look
  cases ai j k with
  |true=>exact h.1
  |false=>exact Jc r h.2 k
theorem bp.told {c:cw} {a:List PV} {z l l':List AV} {r:Mem} {o:Out} (hm:c.st.mem = .pc a :: .ac z :: .ac l::r) (hf:c.st.fix=0) (hr:c.st.cR = .call) (hk:c.st.dj=[]) (hc:nk c=true)
  (hl:bN FZ l l') (hz:fL (idx [0,1,2]) z=z) (hl':fL (idx [0,1,2]) l'=l') (ht:c.st.tm.map (fun p=>(p.1,kr (idx [0,1,2]) p.2))=c.st.tm)
  (h:bp P E {c with st:={c.st with mem:=[.pc a,.ac z,.ac l']}} o):bp P E c o:=by
 refine bp.bL (fun g fr w QD cs=> ?_) h
 obtain⟨f,todo,st⟩:=c
 obtain⟨tm,nt,mem,fix,dj,cR⟩:=st
 dsimp only at hm hf hr hk ht
 subst hm hf hr hk
 match todo,hc with
 |.code j x::k,_=>
  obtain⟨b,at',q1,q2,q3,q4,q5,q6⟩:=QD
  obtain⟨n1,n2⟩:=q5.rel.YH (i:=2) rfl fun vs hv=>fzs hl g w hv
  obtain⟨p1,p2⟩:=n1.pack (ord:=[0,1,2]) (by decide)
  have hmem:Am.pack ((bf.pc a :: .ac z :: .ac l::r).set 2 (.ac l')) [0,1,2]=[.pc a,.ac z,.ac l']:=by
   show[gX (idx [0,1,2]) (.pc a),gX (idx [0,1,2]) (.ac z),gX (idx [0,1,2]) (.ac l')]=_
   simp only[gX,hz,hl']
  rw[hmem] at p1 p2
  have hs:dU g (bf.pc a :: .ac z :: .ac l::r) w (g.pack [0,1,2]) [.pc a,.ac z,.ac l'] w:=n2.trans ⟨aw _,fun _ _ _=>rfl,fun _ _ p=>⟨p,rfl⟩,fun _ _ p=> .inl p,fun c ho=> .inl (p2 c ho),rfl,rfl,rfl⟩
  refine⟨g.pack [0,1,2],fr,w,Steps.refl _ _,⟨b,at',q1,q2,q3,?_,⟨fun k=> ?_,q5.nt,p1,acb _,q5.cX.mono fun _ _ p=>⟨p,rfl⟩⟩,q6⟩,hs,fun _ _ hk _=>absurd hk (Nat.not_lt_zero _),rfl,rfl,rfl⟩
  · show bN _ [] at'.defers
    have q4:bN _ [] at'.defers:=q4
    cases hd:at'.defers with
    |nil=>trivial
    |cons _ _=>rw[hd] at q4;exact q4.elim
  · have:=(q5.tm k).kr (dS.pack g [0,1,2])
    rwa [Jc tm ht k] at this
theorem MN {ρ:Nat→Option Nat} : ∀(K:List Nat) (vs:List AV),vs.map (kr ρ)=vs→(K.zip vs).map (fun p=>(p.1,kr ρ p.2))=K.zip vs
 |[],_,_=>rfl
 |_::_,[],_=>rfl
 |k::K,v::vs,h=>by
  simp only[mi,ahc] at h
  simp only[List.zip_cons_cons,mi,h.1,MN K vs h.2]
theorem bp.Ci {f t nt:Nat} {vs:List AV} {a:List PV} {z l l':List AV} {r:Mem} {o:Out} (hc:nk (ah P E f t vs (.pc a :: .ac z :: .ac l::r) 0 nt)=true)
  (hl:bN FZ l l') (hz:fL (idx [0,1,2]) z=z) (hl':fL (idx [0,1,2]) l'=l') (ht:vs.map (kr (idx [0,1,2]))=vs)
  (h:bp P E (ah P E f t vs [.pc a,.ac z,.ac l'] 0 nt) o):bp P E (ah P E f t vs (.pc a :: .ac z :: .ac l::r) 0 nt) o:=by
 cases h1:P.funcs[f]? with
 |none=>simp[ah,h1,nk] at hc
 |some fn=>
  cases h2:fn.body with
  |none=>simp[ah,h1,h2,nk] at hc
  |some c=>
   cases h3:jZ E f t c 0 [] with
   |none=>simp[ah,h1,h2,h3,nk] at hc
   |some bk=>
    obtain⟨b,k⟩:=bk
    have e : ∀m:Mem,ah P E f t vs m 0 nt=⟨f,.code (t+1) b :: .inLoop t b::fT (E.keep f (2*t+1)) k,⟨((E.keep f (2*t)).getD []).zip vs,nt,m,0,[],.call⟩⟩:=fun m=>by simp[ah,h1,h2,h3]
    rw[e] at h ⊢
    exact bp.told (r:=r) rfl rfl rfl rfl rfl hl hz hl' (MN _ _ ht) h
end
end Go.Am
end
section
namespace Go.Proofs.YtdmmllcjgjmbbaaGreatDoor.N
open Go Go.Am
def zsO:List AV:=[.os none 0 0 [],.os none 0 0 [],.os none 0 0 [],.os none 0 0 [],.os none 0 0 [],.os none 0 0 [],.os none 0 0 [],sB false,sI .u32 0,.os none 0 0 [],.os none 0 0 []]
def Jx (M:Mo) (f g e d:AV):List AV:=[.p (.ps M.tys.length 2 (M.tys.flatMap bB)),.p (.ps M.aP.length 3 (M.aP.flatMap bg)),f,.p (.ps M.cN.length 3 (M.cN.flatMap aS)),.p (.ps M.cL.length 3 (M.cL.flatMap aS)),g,.p (.ps M.exs.length 3 (M.exs.flatMap aV)),sB M.st,sI .u32 M.sn,e,d]
def Jy (M:Mo) (f g e d:AV):Mem:=[.pc M.aH,.ac zsO,.ac (Jx M f g e d)]
def cwC (M:Mo) (a i:Nat) (cs:List PV) (l:List Ins) (f:FuncId) (_:List AV) (m:Mem):Option (AV×Mem):=cond (ai f 24) (some (.p (pL l),m)) none
def cwQ (M:Mo) (a i:Nat) (cs:List PV) (l:List Ins) (k:Nat) (f:FuncId) (_:List AV) (m:Mem):Option (AV×Mem):=cond (ai f 24) (some (.p (pL l),m)) none
theorem Vp (M:Mo):aE aeB env (aJ aB av [(7,0)] [] (fm 7 [(3,3),(4,3),(5,3),(6,3),(7,3)])) 1000000 7 ([AV.agg (adP AV.p M.aH)]) ([]) (.fin) =
(.must (((0+M.tys.length)*16).ble eY&&(0+M.tys.length).ble eY&&true)
 (.must (((0+M.aP.length)*40).ble eY&&(0+M.aP.length).ble eY&&true)
 (.must (((0+M.cN.length)*12).ble eY&&(0+M.cN.length).ble eY&&true)
 (.must (((0+M.cL.length)*12).ble eY&&(0+M.cL.length).ble eY&&true)
 (.must (((0+M.exs.length)*32).ble eY&&(0+M.exs.length).ble eY&&true)
 (.at (ah aeB env 7 0 [.mp 0 0,.mp 1 0,.mp 2 0,sI .i64 0] ([.pc M.aH,.ac [bP,bP,bP,bP,bP,bP,bP,sB false,sI .u32 0,bP,bP],.ac [.os (some 3) (0+M.tys.length) 2 ([]++adw bB M.tys),.os (some 4) (0+M.aP.length) 3 ([]++adw bg M.aP),bP,.os (some 5) (0+M.cN.length) 3 ([]++adw aS M.cN),.os (some 6) (0+M.cL.length) 3 ([]++adw aS M.cL),bP,.os (some 7) (0+M.exs.length) 3 ([]++adw aV M.exs),.p (.sc (.bool M.st)),sI .u32 M.sn,bP,bP],.tok,.tok,.tok,.tok,.tok]) 0 146))))))):=by kernel_rfl
abbrev eK (x0:List Ins):AV:= .p (.ps x0.length 8 (ak x0))
theorem Je (M:Mo) (a:Nat) (i:Nat) (cs:List PV) (l:List Ins):grow aeB env (aJ (cwC M a i cs l) av [(7,0),(7,2)] [(7,0,1)] [(7,15,3),(7,15,4)]) 1000000 true (ah aeB env 7 0 ([AV.mp 0 0,AV.mp 1 0,AV.mp 2 0,sI tp (↑i:Int)]) (Jy M (AV.os aeE 0 0 []) (AV.os aeE 0 0 []) (AV.os aeE 0 0 []) (AV.os aeE 0 0 [])) 0 146) (.fin) atEnd =
(.test ((gU i M))
 (.must ((jC i M))
 (.must ((wA M i))
 (.call ⟨24,(EB M i),[],(eK l),[]⟩
 (.at (ah aeB env 7 0 [.mp 0 0,.mp 1 0,.mp 2 0,sI .i64 (tp.wrap ((↑i:Int)+1))] ([.pc M.aH,.ac [bP,bP,bP,bP,bP,bP,bP,sB false,sI .u32 0,bP,bP],.ac [.p (.ps M.tys.length 2 (adw bB M.tys)),.p (.ps M.aP.length 3 (adw bg M.aP)),.os (some 3) 1 3 [sP (au (aA (adw aM M.fns) (aF i*3))),sP (au (aA (adw aM M.fns) (aF i*3+1))),.ps l.length 8 (ak l)],.p (.ps M.cN.length 3 (adw aS M.cN)),.p (.ps M.cL.length 3 (adw aS M.cL)),bP,.p (.ps M.exs.length 3 (adw aV M.exs)),.p (.sc (.bool M.st)),sI .u32 M.sn,bP,bP],.tok]) 0 146)))))
 (.at (ah aeB env 7 2 [.mp 0 0,.mp 1 0,.mp 2 0,sI .i64 0] ([.pc M.aH,.ac [bP,bP,bP,bP,bP,bP,bP,sB false,sI .u32 0,bP,bP],.ac [.p (.ps M.tys.length 2 (adw bB M.tys)),.p (.ps M.aP.length 3 (adw bg M.aP)),bP,.p (.ps M.cN.length 3 (adw aS M.cN)),.p (.ps M.cL.length 3 (adw aS M.cL)),bP,.p (.ps M.exs.length 3 (adw aV M.exs)),.p (.sc (.bool M.st)),sI .u32 M.sn,bP,bP]]) 0 146))):=by kernel_rfl
theorem Jf (M:Mo) (a:Nat) (i:Nat) (cs:List PV) (l:List Ins):grow aeB env (aJ (cwC M a i cs l) av [(7,0),(7,2)] [(7,0,1)] (fm 7 [(15,3),(15,4),(17,4)])) 1000000 true (ah aeB env 7 0 ([AV.mp 0 0,AV.mp 1 0,AV.mp 2 0,sI tp (↑i:Int)]) (Jy M (AV.os (aeF 3) a 3 cs) (AV.os aeE 0 0 []) (AV.os aeE 0 0 []) (AV.os aeE 0 0 [])++[bf.tok]) 0 146) (.fin) atEnd =
(.test ((gU i M))
 (.must ((jC i M))
 (.must ((wA M i))
 (.call ⟨24,(EB M i),[],(eK l),[]⟩
 (.must (((a+1)*40).ble eY&&(a+1).ble eY&&true)
 (.at (ah aeB env 7 0 [.mp 0 0,.mp 1 0,.mp 2 0,sI .i64 (tp.wrap ((↑i:Int)+1))] ([.pc M.aH,.ac [bP,bP,bP,bP,bP,bP,bP,sB false,sI .u32 0,bP,bP],.ac [.p (.ps M.tys.length 2 (adw bB M.tys)),.p (.ps M.aP.length 3 (adw bg M.aP)),.os (some 3) (a+1) 3 (cs++[sP (au (aA (adw aM M.fns) (aF i*3))),sP (au (aA (adw aM M.fns) (aF i*3+1))),.ps l.length 8 (ak l)]),.p (.ps M.cN.length 3 (adw aS M.cN)),.p (.ps M.cL.length 3 (adw aS M.cL)),bP,.p (.ps M.exs.length 3 (adw aV M.exs)),.p (.sc (.bool M.st)),sI .u32 M.sn,bP,bP],.tok]) 0 146))))))
 (.at (ah aeB env 7 2 [.mp 0 0,.mp 1 0,.mp 2 0,sI .i64 0] ([.pc M.aH,.ac [bP,bP,bP,bP,bP,bP,bP,sB false,sI .u32 0,bP,bP],.ac [.p (.ps M.tys.length 2 (adw bB M.tys)),.p (.ps M.aP.length 3 (adw bg M.aP)),.os (some 3) a 3 cs,.p (.ps M.cN.length 3 (adw aS M.cN)),.p (.ps M.cL.length 3 (adw aS M.cL)),bP,.p (.ps M.exs.length 3 (adw aV M.exs)),.p (.sc (.bool M.st)),sI .u32 M.sn,bP,bP],.tok]) 0 146))):=by kernel_rfl
theorem Jg (M:Mo) (a:Nat) (i:Nat) (cs:List PV) (l:List Ins):grow aeB env (aJ aB av [(7,2),(7,4)] [(7,0,3)] [(7,0,4)]) 1000000 true (ah aeB env 7 2 ([AV.mp 0 0,AV.mp 1 0,AV.mp 2 0,sI tp (↑i:Int)]) (Jy M (AV.p (PV.ps M.fns.length 3 (adw aM M.fns))) (AV.os aeE 0 0 []) (AV.os aeE 0 0 []) (AV.os aeE 0 0 [])) 0 146) (.fork (.ou 7 20 (cwQ M a i cs l 0) .fin) .fin) atEnd =
(.test ((kD i M))
 (.call ⟨24,(rZ M i),[],(eK l),[]⟩
 (.must (bE (↑i:Int) M.gls.length&&true&&true&&(isBool (aA (adw bC M.gls) (aF i*2+0))&&true&&(bE (↑i:Int) M.gls.length&&true&&true&&(aX (aA (adw bC M.gls) (aF i*2+1))&&true&&true)))&&true)
 (.at (ah aeB env 7 2 [.mp 0 0,.mp 1 0,.mp 2 0,sI .i64 (tp.wrap ((↑i:Int)+1))] ([.pc M.aH,.ac [bP,bP,bP,bP,bP,bP,bP,sB false,sI .u32 0,bP,bP],.ac [.p (.ps M.tys.length 2 (adw bB M.tys)),.p (.ps M.aP.length 3 (adw bg M.aP)),.p (.ps M.fns.length 3 (adw aM M.fns)),.p (.ps M.cN.length 3 (adw aS M.cN)),.p (.ps M.cL.length 3 (adw aS M.cL)),.os (some 3) 1 2 [.sc (.bool (aW (aA (adw bC M.gls) (aF i*2+0)))),.ps l.length 8 (ak l)],.p (.ps M.exs.length 3 (adw aV M.exs)),.p (.sc (.bool M.st)),sI .u32 M.sn,bP,bP],.tok]) 0 146))))
 (.at (ah aeB env 7 4 [.mp 0 0,.mp 1 0,.mp 2 0,sI .i64 0] ([.pc M.aH,.ac [bP,bP,bP,bP,bP,bP,bP,sB false,sI .u32 0,bP,bP],.ac [.p (.ps M.tys.length 2 (adw bB M.tys)),.p (.ps M.aP.length 3 (adw bg M.aP)),.p (.ps M.fns.length 3 (adw aM M.fns)),.p (.ps M.cN.length 3 (adw aS M.cN)),.p (.ps M.cL.length 3 (adw aS M.cL)),bP,.p (.ps M.exs.length 3 (adw aV M.exs)),.p (.sc (.bool M.st)),sI .u32 M.sn,bP,bP]]) 0 146))):=by kernel_rfl
theorem Jh (M:Mo) (a:Nat) (i:Nat) (cs:List PV) (l:List Ins):grow aeB env (aJ aB av [(7,2),(7,4)] [(7,0,3)] [(7,0,4)]) 1000000 true (ah aeB env 7 2 ([AV.mp 0 0,AV.mp 1 0,AV.mp 2 0,sI tp (↑i:Int)]) (Jy M (AV.p (PV.ps M.fns.length 3 (adw aM M.fns))) (AV.os (aeF 3) a 2 cs) (AV.os aeE 0 0 []) (AV.os aeE 0 0 [])++[bf.tok]) 0 146) (.fork (.ou 7 20 (cwQ M a i cs l 0) .fin) .fin) atEnd =
(.test ((kD i M))
 (.call ⟨24,(rZ M i),[],(eK l),[]⟩
 (.must (bE (↑i:Int) M.gls.length&&true&&true&&(isBool (aA (adw bC M.gls) (aF i*2+0))&&true&&(bE (↑i:Int) M.gls.length&&true&&true&&(aX (aA (adw bC M.gls) (aF i*2+1))&&true&&(((a+1)*32).ble eY&&(a+1).ble eY&&true&&true))))&&true)
 (.at (ah aeB env 7 2 [.mp 0 0,.mp 1 0,.mp 2 0,sI .i64 (tp.wrap ((↑i:Int)+1))] ([.pc M.aH,.ac [bP,bP,bP,bP,bP,bP,bP,sB false,sI .u32 0,bP,bP],.ac [.p (.ps M.tys.length 2 (adw bB M.tys)),.p (.ps M.aP.length 3 (adw bg M.aP)),.p (.ps M.fns.length 3 (adw aM M.fns)),.p (.ps M.cN.length 3 (adw aS M.cN)),.p (.ps M.cL.length 3 (adw aS M.cL)),.os (some 3) (a+1) 2 (cs++[.sc (.bool (aW (aA (adw bC M.gls) (aF i*2+0)))),.ps l.length 8 (ak l)]),.p (.ps M.exs.length 3 (adw aV M.exs)),.p (.sc (.bool M.st)),sI .u32 M.sn,bP,bP],.tok]) 0 146))))
 (.at (ah aeB env 7 4 [.mp 0 0,.mp 1 0,.mp 2 0,sI .i64 0] ([.pc M.aH,.ac [bP,bP,bP,bP,bP,bP,bP,sB false,sI .u32 0,bP,bP],.ac [.p (.ps M.tys.length 2 (adw bB M.tys)),.p (.ps M.aP.length 3 (adw bg M.aP)),.p (.ps M.fns.length 3 (adw aM M.fns)),.p (.ps M.cN.length 3 (adw aS M.cN)),.p (.ps M.cL.length 3 (adw aS M.cL)),.os (some 3) a 2 cs,.p (.ps M.exs.length 3 (adw aV M.exs)),.p (.sc (.bool M.st)),sI .u32 M.sn,bP,bP],.tok]) 0 146))):=by kernel_rfl
theorem Ji (M:Mo) (a:Nat) (i:Nat) (cs:List PV) (l:List Ins):grow aeB env (aJ aB av [(7,4),(7,6)] [(7,0,5)] [(7,0,6)]) 1000000 true (ah aeB env 7 4 ([AV.mp 0 0,AV.mp 1 0,AV.mp 2 0,sI tp (↑i:Int)]) (Jy M (AV.p (PV.ps M.fns.length 3 (adw aM M.fns))) (AV.p (PV.ps M.gls.length 2 (adw bC M.gls))) (AV.os aeE 0 0 []) (AV.os aeE 0 0 [])) 0 146) (.fork (.ou 7 24 (cwQ M a i cs l 0) .fin) .fin) atEnd =
(.test ((jh i M))
 (.call ⟨24,(wC M i),[],(eK l),[]⟩
 (.must (bE (↑i:Int) M.els.length&&true&&true&&(aX (aA (adw aT M.els) (aF i*2+0))&&true&&(bE (↑i:Int) M.els.length&&true&&true&&(aX (aA (adw aT M.els) (aF i*2+1))&&true&&(((aK (aA (adw aT M.els) (aF i*2+1))).beq 1||(aq (aA (adw aT M.els) (aF i*2+1))).beq 0&&ar 1 1)&&true&&true&&true&&((0+aq (aA (adw aT M.els) (aF i*2+1)))*4).ble eY&&(0+aq (aA (adw aT M.els) (aF i*2+1))).ble eY&&true&&true))))&&true)
 (.at (ah aeB env 7 4 [.mp 0 0,.mp 1 0,.mp 2 0,sI .i64 (tp.wrap ((↑i:Int)+1))] ([.pc M.aH,.ac [bP,bP,bP,bP,bP,bP,bP,sB false,sI .u32 0,bP,bP],.ac [.p (.ps M.tys.length 2 (adw bB M.tys)),.p (.ps M.aP.length 3 (adw bg M.aP)),.p (.ps M.fns.length 3 (adw aM M.fns)),.p (.ps M.cN.length 3 (adw aS M.cN)),.p (.ps M.cL.length 3 (adw aS M.cL)),.p (.ps M.gls.length 2 (adw bC M.gls)),.p (.ps M.exs.length 3 (adw aV M.exs)),.p (.sc (.bool M.st)),sI .u32 M.sn,.os (some 3) 1 2 [.ps l.length 8 (ak l),.ps (0+aq (aA (adw aT M.els) (aF i*2+1))) 1 ([]++aj (aA (adw aT M.els) (aF i*2+1)))],bP],.tok]) 0 146))))
 (.at (ah aeB env 7 6 [.mp 0 0,.mp 1 0,.mp 2 0,sI .i64 0] ([.pc M.aH,.ac [bP,bP,bP,bP,bP,bP,bP,sB false,sI .u32 0,bP,bP],.ac [.p (.ps M.tys.length 2 (adw bB M.tys)),.p (.ps M.aP.length 3 (adw bg M.aP)),.p (.ps M.fns.length 3 (adw aM M.fns)),.p (.ps M.cN.length 3 (adw aS M.cN)),.p (.ps M.cL.length 3 (adw aS M.cL)),.p (.ps M.gls.length 2 (adw bC M.gls)),.p (.ps M.exs.length 3 (adw aV M.exs)),.p (.sc (.bool M.st)),sI .u32 M.sn,bP,bP]]) 0 146))):=by kernel_rfl
theorem Jj (M:Mo) (a:Nat) (i:Nat) (cs:List PV) (l:List Ins):grow aeB env (aJ aB av [(7,4),(7,6)] [(7,0,5)] [(7,0,6)]) 1000000 true (ah aeB env 7 4 ([AV.mp 0 0,AV.mp 1 0,AV.mp 2 0,sI tp (↑i:Int)]) (Jy M (AV.p (PV.ps M.fns.length 3 (adw aM M.fns))) (AV.p (PV.ps M.gls.length 2 (adw bC M.gls))) (AV.os (aeF 3) a 2 cs) (AV.os aeE 0 0 [])++[bf.tok]) 0 146) (.fork (.ou 7 24 (cwQ M a i cs l 0) .fin) .fin) atEnd =
(.test ((jh i M))
 (.call ⟨24,(wC M i),[],(eK l),[]⟩
 (.must (bE (↑i:Int) M.els.length&&true&&true&&(aX (aA (adw aT M.els) (aF i*2+0))&&true&&(bE (↑i:Int) M.els.length&&true&&true&&(aX (aA (adw aT M.els) (aF i*2+1))&&true&&(((aK (aA (adw aT M.els) (aF i*2+1))).beq 1||(aq (aA (adw aT M.els) (aF i*2+1))).beq 0&&ar 1 1)&&true&&true&&true&&((0+aq (aA (adw aT M.els) (aF i*2+1)))*4).ble eY&&(0+aq (aA (adw aT M.els) (aF i*2+1))).ble eY&&true&&(((a+1)*48).ble eY&&(a+1).ble eY&&true&&true)))))&&true)
 (.at (ah aeB env 7 4 [.mp 0 0,.mp 1 0,.mp 2 0,sI .i64 (tp.wrap ((↑i:Int)+1))] ([.pc M.aH,.ac [bP,bP,bP,bP,bP,bP,bP,sB false,sI .u32 0,bP,bP],.ac [.p (.ps M.tys.length 2 (adw bB M.tys)),.p (.ps M.aP.length 3 (adw bg M.aP)),.p (.ps M.fns.length 3 (adw aM M.fns)),.p (.ps M.cN.length 3 (adw aS M.cN)),.p (.ps M.cL.length 3 (adw aS M.cL)),.p (.ps M.gls.length 2 (adw bC M.gls)),.p (.ps M.exs.length 3 (adw aV M.exs)),.p (.sc (.bool M.st)),sI .u32 M.sn,.os (some 3) (a+1) 2 (cs++[.ps l.length 8 (ak l),.ps (0+aq (aA (adw aT M.els) (aF i*2+1))) 1 ([]++aj (aA (adw aT M.els) (aF i*2+1)))]),bP],.tok]) 0 146))))
 (.at (ah aeB env 7 6 [.mp 0 0,.mp 1 0,.mp 2 0,sI .i64 0] ([.pc M.aH,.ac [bP,bP,bP,bP,bP,bP,bP,sB false,sI .u32 0,bP,bP],.ac [.p (.ps M.tys.length 2 (adw bB M.tys)),.p (.ps M.aP.length 3 (adw bg M.aP)),.p (.ps M.fns.length 3 (adw aM M.fns)),.p (.ps M.cN.length 3 (adw aS M.cN)),.p (.ps M.cL.length 3 (adw aS M.cL)),.p (.ps M.gls.length 2 (adw bC M.gls)),.p (.ps M.exs.length 3 (adw aV M.exs)),.p (.sc (.bool M.st)),sI .u32 M.sn,.os (some 3) a 2 cs,bP],.tok]) 0 146))):=by kernel_rfl
theorem Jk (M:Mo) (a:Nat) (i:Nat) (cs:List PV) (l:List Ins):grow aeB env (aJ aB av [(7,6)] [(7,0,7)] [(7,0,8)]) 1000000 true (ah aeB env 7 6 ([AV.mp 0 0,AV.mp 1 0,AV.mp 2 0,sI tp (↑i:Int)]) (Jy M (AV.p (PV.ps M.fns.length 3 (adw aM M.fns))) (AV.p (PV.ps M.gls.length 2 (adw bC M.gls))) (AV.p (PV.ps M.els.length 2 (adw aT M.els))) (AV.os aeE 0 0 [])) 0 146) (.fork (.ou 7 28 (cwQ M a i cs l 0) .fin) .fin) atEnd =
(.test ((ji i M))
 (.call ⟨24,(sj M i),[],(eK l),[]⟩
 (.must (bE (↑i:Int) M.bw.length&&true&&true&&(aX (aA (adw bz M.bw) (aF i*2+0))&&true&&(bE (↑i:Int) M.bw.length&&true&&true&&(aX (aA (adw bz M.bw) (aF i*2+1))&&true&&(((aK (aA (adw bz M.bw) (aF i*2+1))).beq 1||(aq (aA (adw bz M.bw) (aF i*2+1))).beq 0&&ar 1 1)&&true&&true&&true&&((0+aq (aA (adw bz M.bw) (aF i*2+1)))*1).ble eY&&(0+aq (aA (adw bz M.bw) (aF i*2+1))).ble eY&&true&&true))))&&true)
 (.at (ah aeB env 7 6 [.mp 0 0,.mp 1 0,.mp 2 0,sI .i64 (tp.wrap ((↑i:Int)+1))] ([.pc M.aH,.ac [bP,bP,bP,bP,bP,bP,bP,sB false,sI .u32 0,bP,bP],.ac [.p (.ps M.tys.length 2 (adw bB M.tys)),.p (.ps M.aP.length 3 (adw bg M.aP)),.p (.ps M.fns.length 3 (adw aM M.fns)),.p (.ps M.cN.length 3 (adw aS M.cN)),.p (.ps M.cL.length 3 (adw aS M.cL)),.p (.ps M.gls.length 2 (adw bC M.gls)),.p (.ps M.exs.length 3 (adw aV M.exs)),.p (.sc (.bool M.st)),sI .u32 M.sn,.p (.ps M.els.length 2 (adw aT M.els)),.os (some 3) 1 2 [.ps l.length 8 (ak l),.ps (0+aq (aA (adw bz M.bw) (aF i*2+1))) 1 ([]++aj (aA (adw bz M.bw) (aF i*2+1)))]],.tok]) 0 146))))
 (.must true
 (.out (.ret (.agg [.p (.ps M.tys.length 2 (adw bB M.tys)),.p (.ps M.aP.length 3 (adw bg M.aP)),.p (.ps M.fns.length 3 (adw aM M.fns)),.p (.ps M.cN.length 3 (adw aS M.cN)),.p (.ps M.cL.length 3 (adw aS M.cL)),.p (.ps M.gls.length 2 (adw bC M.gls)),.p (.ps M.exs.length 3 (adw aV M.exs)),.p (.sc (.bool M.st)),sI .u32 M.sn,.p (.ps M.els.length 2 (adw aT M.els)),bP]) [])))):=by kernel_rfl
theorem Jl (M:Mo) (a:Nat) (i:Nat) (cs:List PV) (l:List Ins):grow aeB env (aJ aB av [(7,6)] [(7,0,7)] [(7,0,8)]) 1000000 true (ah aeB env 7 6 ([AV.mp 0 0,AV.mp 1 0,AV.mp 2 0,sI tp (↑i:Int)]) (Jy M (AV.p (PV.ps M.fns.length 3 (adw aM M.fns))) (AV.p (PV.ps M.gls.length 2 (adw bC M.gls))) (AV.p (PV.ps M.els.length 2 (adw aT M.els))) (AV.os (aeF 3) a 2 cs)++[bf.tok]) 0 146) (.fork (.ou 7 28 (cwQ M a i cs l 0) .fin) .fin) atEnd =
(.test ((ji i M))
 (.call ⟨24,(sj M i),[],(eK l),[]⟩
 (.must (bE (↑i:Int) M.bw.length&&true&&true&&(aX (aA (adw bz M.bw) (aF i*2+0))&&true&&(bE (↑i:Int) M.bw.length&&true&&true&&(aX (aA (adw bz M.bw) (aF i*2+1))&&true&&(((aK (aA (adw bz M.bw) (aF i*2+1))).beq 1||(aq (aA (adw bz M.bw) (aF i*2+1))).beq 0&&ar 1 1)&&true&&true&&true&&((0+aq (aA (adw bz M.bw) (aF i*2+1)))*1).ble eY&&(0+aq (aA (adw bz M.bw) (aF i*2+1))).ble eY&&true&&(((a+1)*48).ble eY&&(a+1).ble eY&&true&&true)))))&&true)
 (.at (ah aeB env 7 6 [.mp 0 0,.mp 1 0,.mp 2 0,sI .i64 (tp.wrap ((↑i:Int)+1))] ([.pc M.aH,.ac [bP,bP,bP,bP,bP,bP,bP,sB false,sI .u32 0,bP,bP],.ac [.p (.ps M.tys.length 2 (adw bB M.tys)),.p (.ps M.aP.length 3 (adw bg M.aP)),.p (.ps M.fns.length 3 (adw aM M.fns)),.p (.ps M.cN.length 3 (adw aS M.cN)),.p (.ps M.cL.length 3 (adw aS M.cL)),.p (.ps M.gls.length 2 (adw bC M.gls)),.p (.ps M.exs.length 3 (adw aV M.exs)),.p (.sc (.bool M.st)),sI .u32 M.sn,.p (.ps M.els.length 2 (adw aT M.els)),.os (some 3) (a+1) 2 (cs++[.ps l.length 8 (ak l),.ps (0+aq (aA (adw bz M.bw) (aF i*2+1))) 1 ([]++aj (aA (adw bz M.bw) (aF i*2+1)))])],.tok]) 0 146))))
 (.must true
 (.out (.ret (.agg [.p (.ps M.tys.length 2 (adw bB M.tys)),.p (.ps M.aP.length 3 (adw bg M.aP)),.p (.ps M.fns.length 3 (adw aM M.fns)),.p (.ps M.cN.length 3 (adw aS M.cN)),.p (.ps M.cL.length 3 (adw aS M.cL)),.p (.ps M.gls.length 2 (adw bC M.gls)),.p (.ps M.exs.length 3 (adw aV M.exs)),.p (.sc (.bool M.st)),sI .u32 M.sn,.p (.ps M.els.length 2 (adw aT M.els)),.os (some 0) a 2 cs]) [.tok])))):=by kernel_rfl
theorem FZ.aco {n z:Nat} {y:PV} (h:Js (.ps 0 0 []) y):FZ (.os none 0 0 []) (.p y):=FZ.nil h
structure _root_.Go.Am.Mo.O8 (M:Mo):Prop where
 fns : ∀x∈M.fns,gx x.l≤1000000
 gls : ∀x∈M.gls,gx x.l≤1000000
 els : ∀x∈M.els,gx x.l≤1000000∧x.fs.length≤1000000
 bw : ∀x∈M.bw,gx x.l≤1000000∧x.bs.length≤1000000
theorem Gu {α:Type} {l:List α} {D:List α→Nat→cw} {o:Out} (step : ∀(i:Nat) (x:α),l[i]? = some x→bp aeB env (D (l.take i++[x]) (i+1)) o→bp aeB env (D (l.take i) i) o)
  (fin:bp aeB env (D l l.length) o) : ∀r i:Nat,i+r=l.length→bp aeB env (D (l.take i) i) o:=by
 intro r
 induction r with
 |zero=>
  intro i hi
  obtain rfl:i=l.length:=by omega
  rw[List.take_length]
  exact fin
 |succ r ih=>
  intro i hi
  have hl:i<l.length:=by omega
  refine step i l[i] (df hl) ?_
  rw[←ag8 hl]
  exact ih (i+1) (by omega)
def Jm (M:Mo) (p:List Fu) (i:Nat):cw:=
 if p=[] then ah aeB env 7 0 [.mp 0 0,.mp 1 0,.mp 2 0,sI .i64 i] (Jy M (.os none 0 0 []) (.os none 0 0 []) (.os none 0 0 []) (.os none 0 0 [])) 0 146
 else ah aeB env 7 0 [.mp 0 0,.mp 1 0,.mp 2 0,sI .i64 i] ((Jy M (.os (some 3) p.length 3 (p.flatMap aM)) (.os none 0 0 []) (.os none 0 0 []) (.os none 0 0 []))++[.tok]) 0 146
def C4 (M:Mo) (p:List Gl) (i:Nat):cw:=
 if p=[] then ah aeB env 7 2 [.mp 0 0,.mp 1 0,.mp 2 0,sI .i64 i] (Jy M (.p (.ps M.fns.length 3 (M.fns.flatMap aM))) (.os none 0 0 []) (.os none 0 0 []) (.os none 0 0 [])) 0 146
 else ah aeB env 7 2 [.mp 0 0,.mp 1 0,.mp 2 0,sI .i64 i] ((Jy M (.p (.ps M.fns.length 3 (M.fns.flatMap aM))) (.os (some 3) p.length 2 (p.flatMap bC)) (.os none 0 0 []) (.os none 0 0 []))++[.tok]) 0 146
def C5 (M:Mo) (p:List El) (i:Nat):cw:=
 if p=[] then ah aeB env 7 4 [.mp 0 0,.mp 1 0,.mp 2 0,sI .i64 i] (Jy M (.p (.ps M.fns.length 3 (M.fns.flatMap aM))) (.p (.ps M.gls.length 2 (M.gls.flatMap bC))) (.os none 0 0 []) (.os none 0 0 [])) 0 146
 else ah aeB env 7 4 [.mp 0 0,.mp 1 0,.mp 2 0,sI .i64 i] ((Jy M (.p (.ps M.fns.length 3 (M.fns.flatMap aM))) (.p (.ps M.gls.length 2 (M.gls.flatMap bC))) (.os (some 3) p.length 2 (p.flatMap aT)) (.os none 0 0 []))++[.tok]) 0 146
def C6 (M:Mo) (p:List Da) (i:Nat):cw:=
 if p=[] then ah aeB env 7 6 [.mp 0 0,.mp 1 0,.mp 2 0,sI .i64 i] (Jy M (.p (.ps M.fns.length 3 (M.fns.flatMap aM))) (.p (.ps M.gls.length 2 (M.gls.flatMap bC))) (.p (.ps M.els.length 2 (M.els.flatMap aT))) (.os none 0 0 [])) 0 146
 else ah aeB env 7 6 [.mp 0 0,.mp 1 0,.mp 2 0,sI .i64 i] ((Jy M (.p (.ps M.fns.length 3 (M.fns.flatMap aM))) (.p (.ps M.gls.length 2 (M.gls.flatMap bC))) (.p (.ps M.els.length 2 (M.els.flatMap aT))) (.os (some 3) p.length 2 (p.flatMap bz)))++[.tok]) 0 146
theorem aej {vs:List AV} {m:Mem}:nk (ah aeB env 7 2 vs m 0 146)=true:=by kernel_rfl
theorem Vq (M:Mo) (hl:M.fns.length≤1000000) (hc : ∀x∈M.fns,gx x.l≤1000000) (o:Out) (p:List Fu) (hp:p.length≤1000000) (i:Nat) (x:Fu) (hx:M.fns[i]? = some x) (h:bp aeB env (Jm M (p++[x]) (i+1)) o):bp aeB env (Jm M p i) o:=by
 have hi:i<M.fns.length:=(dt.1 hx).1
 have hmem:=mf hx
 have c:=aQ (z:=3) (enc:=aM) (fun _=>rfl) hx
 have kR:(M.fns.flatMap aM).getD (i*3) .aU = .sc (.int .i64 x.ty):=c 0 (by decide)
 have mJ:(M.fns.flatMap aM).getD (i*3+1) .aU = .sc (.int .i64 x.lo):=c 1 (by decide)
 have xu:(M.fns.flatMap aM).getD (i*3+1+1) .aU=pL x.l:=c 2 (by decide)
 have hL:eY=70368744177664:=rfl
 have w:=fk i (by omega)
 have hd:=kj (i:=i) (n:=M.fns.length) (by omega)
 have hin:=kg (i:=i) (n:=M.fns.length) (by omega)
 unfold Jm at h ⊢
 by_cases e:p=[]
 · subst e
   rw[if_neg (by simp),H0] at h
   rw[if_pos rfl]
   refine af aI (Je M 0 i [] x.l) ?_
   simp only[wA,EB,gU,jC,eK,br,aG.ok,isStr,isInt,aX,isBool,aY,au,aW,aq,aK,aj,aeL,kR,mJ,xu,hd,hin,w,ri,H0,aeN,aeO]
   exact⟨fun _=>⟨(by first|rfl|trivial),(by first|rfl|trivial),gP _ x.l (aw _) (hc x hmem),h⟩,fun q=>(by cases q)⟩
 · rw[if_neg (by simp),du,aeq] at h
   rw[if_neg e]
   refine af aI (Jf M p.length i (p.flatMap aM) x.l) ?_
   simp only[wA,EB,gU,jC,eK,br,aG.ok,isStr,isInt,aX,isBool,aY,au,aW,aq,aK,aj,aeL,kR,mJ,xu,hd,hin,w,ri,H0,aeN,aeO]
   exact⟨fun _=>⟨(by first|rfl|trivial),(by first|rfl|trivial),gP _ x.l (aw _) (hc x hmem),(by first|rfl|trivial|(simp only[jn,j1,aey,bc];omega)|(simp[aey];omega)),h⟩,fun q=>(by cases q)⟩
theorem YI (M:Mo) (o:Out) (p:List Fu) (hp:p=M.fns) (h:bp aeB env (C4 M [] 0) o):bp aeB env (Jm M p M.fns.length) o:=by
 have hd:=lP M.fns.length
 unfold Jm
 by_cases e:p=[]
 · subst e
   have GP:Js (.ps 0 0 []) (.ps M.fns.length 3 (M.fns.flatMap aM)):=by rw[←hp];exact .nil
   rw[if_pos rfl]
   refine af aI (Je M 0 M.fns.length [] []) ?_
   simp only[wA,EB,gU,jC,eK,br,aG.ok,hd]
   refine⟨nofun,fun _=> ?_⟩
   rw[C4,if_pos rfl] at h
   refine bp.Ci (l:=(Jx M (.os none 0 0 []) (.os none 0 0 []) (.os none 0 0 []) (.os none 0 0 []))) (l':=(Jx M (.p (.ps M.fns.length 3 (M.fns.flatMap aM))) (.os none 0 0 []) (.os none 0 0 []) (.os none 0 0 []))) (r:=[]) aej ⟨FZ.refl _,FZ.refl _,(FZ.aco (n:=0) (z:=0) GP),FZ.refl _,FZ.refl _,FZ.refl _,FZ.refl _,FZ.refl _,FZ.refl _,FZ.refl _,FZ.refl _,trivial⟩ rfl rfl rfl h
 · rw[if_neg e]
   have hfz:FZ (.os (some 3) p.length 3 (p.flatMap aM)) (.p (.ps M.fns.length 3 (M.fns.flatMap aM))):=by rw[←hp];exact FZ.os
   refine af aI (Jf M p.length M.fns.length (p.flatMap aM) []) ?_
   simp only[wA,EB,gU,jC,eK,br,aG.ok,hd]
   refine⟨nofun,fun _=> ?_⟩
   rw[C4,if_pos rfl] at h
   refine bp.Ci (l:=(Jx M (.os (some 3) p.length 3 (p.flatMap aM)) (.os none 0 0 []) (.os none 0 0 []) (.os none 0 0 []))) (l':=(Jx M (.p (.ps M.fns.length 3 (M.fns.flatMap aM))) (.os none 0 0 []) (.os none 0 0 []) (.os none 0 0 []))) (r:=[.tok]) aej ⟨FZ.refl _,FZ.refl _,hfz,FZ.refl _,FZ.refl _,FZ.refl _,FZ.refl _,FZ.refl _,FZ.refl _,FZ.refl _,FZ.refl _,trivial⟩ rfl rfl rfl h
theorem aek {vs:List AV} {m:Mem}:nk (ah aeB env 7 4 vs m 0 146)=true:=by kernel_rfl
theorem Vr (M:Mo) (hl:M.gls.length≤1000000) (hc : ∀x∈M.gls,gx x.l≤1000000) (o:Out) (p:List Gl) (hp:p.length≤1000000) (i:Nat) (x:Gl) (hx:M.gls[i]? = some x) (h:bp aeB env (C4 M (p++[x]) (i+1)) o):bp aeB env (C4 M p i) o:=by
 have hi:i<M.gls.length:=(dt.1 hx).1
 have hmem:=mf hx
 have c:=aQ (z:=2) (enc:=bC) (fun _=>rfl) hx
 have kR:(M.gls.flatMap bC).getD (i*2+0) .aU = .sc (.bool x.mu):=c 0 (by decide)
 have mJ:(M.gls.flatMap bC).getD (i*2+1) .aU=pL x.l:=c 1 (by decide)
 have hL:eY=70368744177664:=rfl
 have w:=fk i (by omega)
 have hd:=kj (i:=i) (n:=M.gls.length) (by omega)
 have hin:=kg (i:=i) (n:=M.gls.length) (by omega)
 unfold C4 at h ⊢
 by_cases e:p=[]
 · subst e
   rw[if_neg (by simp),H0] at h
   rw[if_pos rfl]
   refine af aI (Jg M 0 i [] x.l) ?_
   simp only[rZ,kD,eK,br,aG.ok,isStr,isInt,aX,isBool,aY,au,aW,aq,aK,aj,aeL,kR,mJ,hd,hin,w,ri,H0,aeN,aeO]
   exact⟨fun _=>⟨gP _ x.l (aw _) (hc x hmem),(by first|rfl|trivial|(simp only[jn,j1,aey,bc];omega)|(simp[aey];omega)),h⟩,fun q=>(by cases q)⟩
 · rw[if_neg (by simp),du,aeq] at h
   rw[if_neg e]
   refine af aI (Jh M p.length i (p.flatMap bC) x.l) ?_
   simp only[rZ,kD,eK,br,aG.ok,isStr,isInt,aX,isBool,aY,au,aW,aq,aK,aj,aeL,kR,mJ,hd,hin,w,ri,H0,aeN,aeO]
   exact⟨fun _=>⟨gP _ x.l (aw _) (hc x hmem),(by first|rfl|trivial|(simp only[jn,j1,aey,bc];omega)|(simp[aey];omega)),h⟩,fun q=>(by cases q)⟩
theorem YJ (M:Mo) (o:Out) (p:List Gl) (hp:p=M.gls) (h:bp aeB env (C5 M [] 0) o):bp aeB env (C4 M p M.gls.length) o:=by
 have hd:=lP M.gls.length
 unfold C4
 by_cases e:p=[]
 · subst e
   have GP:Js (.ps 0 0 []) (.ps M.gls.length 2 (M.gls.flatMap bC)):=by rw[←hp];exact .nil
   rw[if_pos rfl]
   refine af aI (Jg M 0 M.gls.length [] []) ?_
   simp only[rZ,kD,eK,br,aG.ok,hd]
   refine⟨nofun,fun _=> ?_⟩
   rw[C5,if_pos rfl] at h
   refine bp.Ci (l:=(Jx M (.p (.ps M.fns.length 3 (M.fns.flatMap aM))) (.os none 0 0 []) (.os none 0 0 []) (.os none 0 0 []))) (l':=(Jx M (.p (.ps M.fns.length 3 (M.fns.flatMap aM))) (.p (.ps M.gls.length 2 (M.gls.flatMap bC))) (.os none 0 0 []) (.os none 0 0 []))) (r:=[]) aek ⟨FZ.refl _,FZ.refl _,FZ.refl _,FZ.refl _,FZ.refl _,(FZ.aco (n:=0) (z:=0) GP),FZ.refl _,FZ.refl _,FZ.refl _,FZ.refl _,FZ.refl _,trivial⟩ rfl rfl rfl h
 · rw[if_neg e]
   have hfz:FZ (.os (some 3) p.length 2 (p.flatMap bC)) (.p (.ps M.gls.length 2 (M.gls.flatMap bC))):=by rw[←hp];exact FZ.os
   refine af aI (Jh M p.length M.gls.length (p.flatMap bC) []) ?_
   simp only[rZ,kD,eK,br,aG.ok,hd]
   refine⟨nofun,fun _=> ?_⟩
   rw[C5,if_pos rfl] at h
   refine bp.Ci (l:=(Jx M (.p (.ps M.fns.length 3 (M.fns.flatMap aM))) (.os (some 3) p.length 2 (p.flatMap bC)) (.os none 0 0 []) (.os none 0 0 []))) (l':=(Jx M (.p (.ps M.fns.length 3 (M.fns.flatMap aM))) (.p (.ps M.gls.length 2 (M.gls.flatMap bC))) (.os none 0 0 []) (.os none 0 0 []))) (r:=[.tok]) aek ⟨FZ.refl _,FZ.refl _,FZ.refl _,FZ.refl _,FZ.refl _,hfz,FZ.refl _,FZ.refl _,FZ.refl _,FZ.refl _,FZ.refl _,trivial⟩ rfl rfl rfl h
theorem ael {vs:List AV} {m:Mem}:nk (ah aeB env 7 6 vs m 0 146)=true:=by kernel_rfl
theorem Vs (M:Mo) (hl:M.els.length≤1000000) (hc : ∀x∈M.els,gx x.l≤1000000∧x.fs.length≤1000000) (o:Out) (p:List El) (hp:p.length≤1000000) (i:Nat) (x:El) (hx:M.els[i]? = some x) (h:bp aeB env (C5 M (p++[x]) (i+1)) o):bp aeB env (C5 M p i) o:=by
 have hi:i<M.els.length:=(dt.1 hx).1
 have hmem:=mf hx
 have c:=aQ (z:=2) (enc:=aT) (fun _=>rfl) hx
 have kR:(M.els.flatMap aT).getD (i*2+0) .aU=pL x.l:=c 0 (by decide)
 have mJ:(M.els.flatMap aT).getD (i*2+1) .aU=pT .u32 x.fs:=c 1 (by decide)
 have hL:eY=70368744177664:=rfl
 have kB:=(hc x hmem).2
 have w:=fk i (by omega)
 have hd:=kj (i:=i) (n:=M.els.length) (by omega)
 have hin:=kg (i:=i) (n:=M.els.length) (by omega)
 unfold C5 at h ⊢
 by_cases e:p=[]
 · subst e
   rw[if_neg (by simp),H0] at h
   rw[if_pos rfl]
   refine af aI (Ji M 0 i [] x.l) ?_
   simp only[wC,jh,eK,br,aG.ok,isStr,isInt,aX,isBool,aY,au,aW,aq,aK,aj,aeL,kR,mJ,hd,hin,w,ri,H0,aeN,aeO]
   exact⟨fun _=>⟨gP _ x.l (aw _) ((hc x hmem).1),(by first|rfl|trivial|(simp only[jn,j1,aey,bc];omega)|(simp[aey];omega)),h⟩,fun q=>(by cases q)⟩
 · rw[if_neg (by simp),du,aeq] at h
   rw[if_neg e]
   refine af aI (Jj M p.length i (p.flatMap aT) x.l) ?_
   simp only[wC,jh,eK,br,aG.ok,isStr,isInt,aX,isBool,aY,au,aW,aq,aK,aj,aeL,kR,mJ,hd,hin,w,ri,H0,aeN,aeO]
   exact⟨fun _=>⟨gP _ x.l (aw _) ((hc x hmem).1),(by first|rfl|trivial|(simp only[jn,j1,aey,bc];omega)|(simp[aey];omega)),h⟩,fun q=>(by cases q)⟩
theorem YK (M:Mo) (o:Out) (p:List El) (hp:p=M.els) (h:bp aeB env (C6 M [] 0) o):bp aeB env (C5 M p M.els.length) o:=by
 have hd:=lP M.els.length
 unfold C5
 by_cases e:p=[]
 · subst e
   have GP:Js (.ps 0 0 []) (.ps M.els.length 2 (M.els.flatMap aT)):=by rw[←hp];exact .nil
   rw[if_pos rfl]
   refine af aI (Ji M 0 M.els.length [] []) ?_
   simp only[wC,jh,eK,br,aG.ok,hd]
   refine⟨nofun,fun _=> ?_⟩
   rw[C6,if_pos rfl] at h
   refine bp.Ci (l:=(Jx M (.p (.ps M.fns.length 3 (M.fns.flatMap aM))) (.p (.ps M.gls.length 2 (M.gls.flatMap bC))) (.os none 0 0 []) (.os none 0 0 []))) (l':=(Jx M (.p (.ps M.fns.length 3 (M.fns.flatMap aM))) (.p (.ps M.gls.length 2 (M.gls.flatMap bC))) (.p (.ps M.els.length 2 (M.els.flatMap aT))) (.os none 0 0 []))) (r:=[]) ael ⟨FZ.refl _,FZ.refl _,FZ.refl _,FZ.refl _,FZ.refl _,FZ.refl _,FZ.refl _,FZ.refl _,FZ.refl _,(FZ.aco (n:=0) (z:=0) GP),FZ.refl _,trivial⟩ rfl rfl rfl h
 · rw[if_neg e]
   have hfz:FZ (.os (some 3) p.length 2 (p.flatMap aT)) (.p (.ps M.els.length 2 (M.els.flatMap aT))):=by rw[←hp];exact FZ.os
   refine af aI (Jj M p.length M.els.length (p.flatMap aT) []) ?_
   simp only[wC,jh,eK,br,aG.ok,hd]
   refine⟨nofun,fun _=> ?_⟩
   rw[C6,if_pos rfl] at h
   refine bp.Ci (l:=(Jx M (.p (.ps M.fns.length 3 (M.fns.flatMap aM))) (.p (.ps M.gls.length 2 (M.gls.flatMap bC))) (.os (some 3) p.length 2 (p.flatMap aT)) (.os none 0 0 []))) (l':=(Jx M (.p (.ps M.fns.length 3 (M.fns.flatMap aM))) (.p (.ps M.gls.length 2 (M.gls.flatMap bC))) (.p (.ps M.els.length 2 (M.els.flatMap aT))) (.os none 0 0 []))) (r:=[.tok]) ael ⟨FZ.refl _,FZ.refl _,FZ.refl _,FZ.refl _,FZ.refl _,FZ.refl _,FZ.refl _,FZ.refl _,FZ.refl _,hfz,FZ.refl _,trivial⟩ rfl rfl rfl h
def C7 (M:Mo) (p:List Da):Out:=
 if p=[] then .ret (.agg (Jx M (.p (.ps M.fns.length 3 (M.fns.flatMap aM))) (.p (.ps M.gls.length 2 (M.gls.flatMap bC))) (.p (.ps M.els.length 2 (M.els.flatMap aT))) (.os none 0 0 []))) [] else .ret (.agg (Jx M (.p (.ps M.fns.length 3 (M.fns.flatMap aM))) (.p (.ps M.gls.length 2 (M.gls.flatMap bC))) (.p (.ps M.els.length 2 (M.els.flatMap aT))) (.os (some 0) p.length 2 (p.flatMap bz)))) [.tok]
theorem Vt (M:Mo) (hl:M.bw.length≤1000000) (hc : ∀x∈M.bw,gx x.l≤1000000∧x.bs.length≤1000000) (o:Out) (p:List Da) (hp:p.length≤1000000) (i:Nat) (x:Da) (hx:M.bw[i]? = some x) (h:bp aeB env (C6 M (p++[x]) (i+1)) o):bp aeB env (C6 M p i) o:=by
 have hi:i<M.bw.length:=(dt.1 hx).1
 have hmem:=mf hx
 have c:=aQ (z:=2) (enc:=bz) (fun _=>rfl) hx
 have kR:(M.bw.flatMap bz).getD (i*2+0) .aU=pL x.l:=c 0 (by decide)
 have mJ:(M.bw.flatMap bz).getD (i*2+1) .aU=pT .u8 x.bs:=c 1 (by decide)
 have hL:eY=70368744177664:=rfl
 have kB:=(hc x hmem).2
 have w:=fk i (by omega)
 have hd:=kj (i:=i) (n:=M.bw.length) (by omega)
 have hin:=kg (i:=i) (n:=M.bw.length) (by omega)
 unfold C6 at h ⊢
 by_cases e:p=[]
 · subst e
   rw[if_neg (by simp),H0] at h
   rw[if_pos rfl]
   refine af aI (Jk M 0 i [] x.l) ?_
   simp only[sj,ji,eK,br,aG.ok,isStr,isInt,aX,isBool,aY,au,aW,aq,aK,aj,aeL,kR,mJ,hd,hin,w,ri,H0,aeN,aeO]
   exact⟨fun _=>⟨gP _ x.l (aw _) ((hc x hmem).1),(by first|rfl|trivial|(simp only[jn,j1,aey,bc];omega)|(simp[aey];omega)),h⟩,fun q=>(by cases q)⟩
 · rw[if_neg (by simp),du,aeq] at h
   rw[if_neg e]
   refine af aI (Jl M p.length i (p.flatMap bz) x.l) ?_
   simp only[sj,ji,eK,br,aG.ok,isStr,isInt,aX,isBool,aY,au,aW,aq,aK,aj,aeL,kR,mJ,hd,hin,w,ri,H0,aeN,aeO]
   exact⟨fun _=>⟨gP _ x.l (aw _) ((hc x hmem).1),(by first|rfl|trivial|(simp only[jn,j1,aey,bc];omega)|(simp[aey];omega)),h⟩,fun q=>(by cases q)⟩
theorem YL (M:Mo) (o:Out) (p:List Da) (hp:p=M.bw) (h:C7 M p=o):bp aeB env (C6 M p M.bw.length) o:=by
 have hd:=lP M.bw.length
 unfold C6
 by_cases e:p=[]
 · subst e
   rw[if_pos rfl]
   refine af aI (Jk M 0 M.bw.length [] []) ?_
   rw[C7,if_pos rfl] at h
   simp only[sj,ji,eK,br,aG.ok,hd]
   exact⟨fun q=>(by cases q),fun _=>⟨(by first|rfl|trivial),h⟩⟩
 · rw[if_neg e]
   refine af aI (Jl M p.length M.bw.length (p.flatMap bz) []) ?_
   rw[C7,if_neg e] at h
   simp only[sj,ji,eK,br,aG.ok,hd]
   exact⟨fun q=>(by cases q),fun _=>⟨(by first|rfl|trivial),h⟩⟩
def Wle (a b:AV):Prop:= ∀(g:Gh) (w:World) (v:Value),VA g w a v→VA {g with cm:=fun _=>none} w b v
theorem Wle.p {x y:PV} (h:Js x y):Wle (.p x) (.p y):=fun g w v hv=>by
 cases hv with
 |p _ _ hv=>exact .p _ _ (VP.mono (g:=g) (g':={g with cm:=fun _=>none}) (w:=w) (w':=w) (fun _ _ q=>⟨q,rfl⟩) (h _ _ _ hv))
theorem Wle.os {tok:Option Nat} {n z:Nat} {cs:List PV} {y:PV} (h:Js (.ps n z cs) y):Wle (.os tok n z cs) (.p y):=fun g w v hv=>by
 cases hv with
 |os _ _ _ _ a cap hv _=>exact .p _ _ (VP.mono (g:=g) (g':={g with cm:=fun _=>none}) (w:=w) (w':=w) (fun _ _ q=>⟨q,rfl⟩) (h _ _ _ hv))
theorem agU {l l':List AV} (h:bN Wle l l') (g:Gh) (w:World) : ∀{vs:List Value},dz g w l vs→dz {g with cm:=fun _=>none} w l' vs:=by
 induction l generalizing l' with
 |nil=>intro vs hv;cases l' with
  |nil=>cases vs with
   |nil=>trivial
   |cons _ _=>exact hv.elim
  |cons _ _=>exact h.elim
 |cons a l ih=>intro vs hv;cases l' with
  |nil=>exact h.elim
  |cons b l'=>cases vs with
   |nil=>exact hv.elim
   |cons v vs=>exact⟨h.1 g w v hv.1,ih h.2 hv.2⟩
theorem an.Zy {f:FuncId} {args l l':List AV} {m':Mem} (h:an aeB env f args [] (.agg l) m') (hl:bN Wle l l'):an aeB env f args [] (.agg l') []:=
 h.weak fun g w cv q=>by
   cases q with
   |agg _ cs hn hc=>exact VA.zL.2 (agU hl g w (bN.dY hn hc))
theorem agV {vs:List AV} {m:Mem}:nk (ah aeB env 7 0 vs m 0 146)=true:=by kernel_rfl
theorem Ls (M:Mo) (hM:M.fit) (hn:M.O8):bp aeB env (Jm M [] 0) (C7 M M.bw):=by
 have tk : ∀{α:Type} (l:List α) (i:Nat),l.length≤1000000→(l.take i).length≤1000000:=fun l i h=>by rw[List.length_take];omega
 have k4:bp aeB env (C6 M [] 0) (C7 M M.bw):=Gu (D:=C6 M) (fun i x hx h=>Vt M hM.bw hn.bw _ (M.bw.take i) (tk _ _ hM.bw) i x hx h) (YL M _ M.bw rfl rfl) M.bw.length 0 (by omega)
 have k3:bp aeB env (C5 M [] 0) (C7 M M.bw):=Gu (D:=C5 M) (fun i x hx h=>Vs M hM.els hn.els _ (M.els.take i) (tk _ _ hM.els) i x hx h) (YK M _ M.els rfl k4) M.els.length 0 (by omega)
 have k2:bp aeB env (C4 M [] 0) (C7 M M.bw):=Gu (D:=C4 M) (fun i x hx h=>Vr M hM.gls hn.gls _ (M.gls.take i) (tk _ _ hM.gls) i x hx h) (YJ M _ M.gls rfl k3) M.gls.length 0 (by omega)
 exact Gu (D:=Jm M) (fun i x hx h=>Vq M hM.fns hn.fns _ (M.fns.take i) (tk _ _ hM.fns) i x hx h) (YI M _ M.fns rfl k2) M.fns.length 0 (by omega)
set_option maxRecDepth 20000 in
theorem Cj (M:Mo) (hM:M.fit) (hn:M.O8) {v:AV} {m':Mem} (e:C7 M M.bw = .ret v m'):an aeB env 7 [.agg (M.aH.map .p)] [] v m':=by
 have k:=Ls M hM hn
 rw[e,Jm,if_pos rfl] at k
 have h1:=hM.tys;have h2:=hM.aP;have h3:=hM.cN;have h4:=hM.cL;have h5:=hM.exs
 have hL:eY=70368744177664:=rfl
 refine aa aI (Vp M) ?_
 simp only[br,aG.ok,ri,H0]
 refine⟨(by simp[aey];omega),(by simp[aey];omega),(by simp[aey];omega),(by simp[aey];omega),(by simp[aey];omega),?_⟩
 exact bp.Ci (l:=[.os (some 3) M.tys.length 2 (M.tys.flatMap bB),.os (some 4) M.aP.length 3 (M.aP.flatMap bg),.os none 0 0 [],.os (some 5) M.cN.length 3 (M.cN.flatMap aS),.os (some 6) M.cL.length 3 (M.cL.flatMap aS),.os none 0 0 [],.os (some 7) M.exs.length 3 (M.exs.flatMap aV),sB M.st,sI .u32 M.sn,.os none 0 0 [],.os none 0 0 []])
  (l':=Jx M (.os none 0 0 []) (.os none 0 0 []) (.os none 0 0 []) (.os none 0 0 [])) (r:=[.tok,.tok,.tok,.tok,.tok]) agV ⟨FZ.os,FZ.os,FZ.refl _,FZ.os,FZ.os,FZ.refl _,FZ.os,FZ.refl _,FZ.refl _,FZ.refl _,FZ.refl _,trivial⟩ rfl rfl rfl k
theorem Lt (M:Mo) (hM:M.fit) (hn:M.O8):an aeB env 7 [.agg (M.aH.map .p)] [] (.agg (M.aH.map .p)) []:=by
 have rf : ∀x:PV,Wle (.p x) (.p x):=fun x=> .p (.refl _)
 by_cases e:M.bw=[]
 · have h:=Cj M hM hn (by rw[C7,if_pos e])
   refine an.Zy h ⟨rf _,rf _,rf _,rf _,rf _,rf _,rf _,rf _,rf _,rf _,?_,trivial⟩
   rw[e]
   exact .os .nil
 · have h:=Cj M hM hn (by rw[C7,if_neg e])
   exact an.Zy h ⟨rf _,rf _,rf _,rf _,rf _,rf _,rf _,rf _,rf _,rf _,.os (.refl _),trivial⟩
theorem YM {M:Mo} (h:oz M=false):M.O8:=by
 unfold oz at h
 split at h
 · cases h
 rename_i q
 have h : ¬H9 M>5000:=by simpa using h
 have q:lens M≤5000:=by omega
 have q':=q
 unfold lens at q'
 have r1:=bY BU M.fns (lens M)
 have r2:=bY BV M.gls (bS qj (lens M) M.fns)
 have r3:=bY BW M.els (bS ur (bS qj (lens M) M.fns) M.gls)
 have r4:=bY BX M.bw (bS zC (bS ur (bS qj (lens M) M.fns) M.gls) M.els)
 have r5:=bY H8 M.aP (bS Gx (bS zC (bS ur (bS qj (lens M) M.fns) M.gls) M.els) M.bw)
 have r6:=bY Mx M.exs (bS SW (bS Gx (bS zC (bS ur (bS qj (lens M) M.fns) M.gls) M.els) M.bw) M.aP)
 unfold H9 at h
 have hl:0≤lens M:=by unfold lens;omega
 have cnt : ∀l:List Ins,dA l 5000 0≤5000→gx l≤1000000:=fun l hl=>by
  have:=rU l 5000 0 (by decide) (by decide) hl
  omega
 have rng : ∀l:List Ins,0≤dA l 5000 0:=fun l=>(cP l 5000 0 (by decide) (by decide) (by decide)).1
 refine⟨fun x hx=> ?_,fun x hx=> ?_,fun x hx=> ?_,fun x hx=> ?_⟩
 · have:=lz BU M.fns (lens M) x hx
   exact cnt _ (by have e:qj x=dA x.l 5000 0:=rfl;omega)
 · have:=lz BV M.gls (bS qj (lens M) M.fns) x hx
   exact cnt _ (by have e:ur x=dA x.l 5000 0:=rfl;omega)
 · have:=lz BW M.els (bS ur (bS qj (lens M) M.fns) M.gls) x hx
   have e:zC x=dA x.l 5000 0+min (x.fs.length:Int) 5000:=rfl
   have hp:0<M.els.length:=ag9 hx
   have:=rng x.l
   have hs:1≤lens M:=by unfold lens;omega
   exact⟨cnt _ (by omega),by omega⟩
 · have:=lz BX M.bw (bS zC (bS ur (bS qj (lens M) M.fns) M.gls) M.els) x hx
   have e:Gx x=dA x.l 5000 0+min (x.bs.length:Int) 5000:=rfl
   have hp:0<M.bw.length:=ag9 hx
   have:=rng x.l
   have hs:1≤lens M:=by unfold lens;omega
   exact⟨cnt _ (by omega),by omega⟩
def swQ (M:Mo) (i:Nat) (k:Nat) (f:FuncId) (_:List AV) (m:Mem):Option (AV×Mem):=cond (ai f 80||ai f 81||ai f 37||ai f 38||ai f 82) (some (sB true,m)) none
def Vu (l:List (Nat×Nat×AV)) (f d:Nat):Option AV:=match l with
 |[]=>none
 |(f',d',v)::r=>cond (ai f f'&&ai d d') (some v) (Vu r f d)
def uV:Env:={env with told:=Vu [(16,156,sB false),(38,66,sB false)]}
theorem Vv (k:Nat) (cs:List PV):aE aeB env (aJ aB av [(81,1)] [(81,0,0)] []) 1000000 81 ([AV.p (PV.ps k 1 cs),AV.p (PV.ps k 1 cs)]) ([]) (.fin) =
(.test ((↑k:Int) != (↑k:Int))
 (.out (.ret (sB false) []))
 (.at (ah aeB env 81 1 [.p (.ps k 1 cs),.p (.ps k 1 cs),sI .i64 0] ([]) 0 26))):=by kernel_rfl
theorem Vw (k:Nat) (cs:List PV):aE aeB env (aJ aB av [] [] [(82,2,1),(82,2,3)]) 1000000 82 ([AV.p (PV.ps k 1 cs),AV.p (PV.ps k 1 cs)]) ([]) (.fin) =
(.must (cs.all isByte&&true)
 (.must (cs.all isByte&&true)
 (.out (.ret (.p (.sc (.bool ((ByteArray.mk (adP Am.byteOf cs).toArray).data.toList==(ByteArray.mk (adP Am.byteOf cs).toArray).data.toList)))) [])))):=by kernel_rfl
theorem Vx (l:List Ins):aE aeB env (aJ aB av [(80,1)] [(80,0,0)] []) 1000000 80 ([aL l,aL l]) ([]) (.fin) =
(.test ((↑l.length:Int) != (↑l.length:Int))
 (.out (.ret (sB false) []))
 (.at (ah aeB env 80 1 [.p (.ps l.length 8 (ak l)),.p (.ps l.length 8 (ak l)),sI .i64 0] ([]) 0 84))):=by kernel_rfl
theorem Vy (lo:Int) (l:List Ins):aE aeB env (aJ aB av [] [(37,2,6)] []) 1000000 37 ([AV.agg [sI tp lo,aL l],AV.agg [sI tp lo,aL l]]) ([]) (.fork (.ans 80 (sB true) ([]) .fin) .fin) =
(.test (lo==lo)
 (.call ⟨80,[.p (.ps l.length 8 (ak l)),.p (.ps l.length 8 (ak l))],[],sB true,[]⟩
 iT)
 (.out (.ret (sB false) []))):=by kernel_rfl
def acq:oP:=aJ aB av [(16,1)] (fm 16 [(2,8),(2,17),(2,26),(2,35),(2,44),(2,53),(2,62),(2,69),(2,76),(2,85),(0,0)]) []
def aem:Sc:=(jv 12 1917361023659816781084612103184917975068093029785159).1
def fq:aG:=
 (.out (.ret (sB false) []))
def MO (M:Mo):aG:=
 (.test ((↑M.tys.length:Int) != (↑M.tys.length:Int))
 (fq)
 (.test ((↑M.aP.length:Int) != (↑M.aP.length:Int))
 (fq)
 (.test ((↑M.fns.length:Int) != (↑M.fns.length:Int))
 (fq)
 (.test ((↑M.cN.length:Int) != (↑M.cN.length:Int))
 (fq)
 (.test ((↑M.cL.length:Int) != (↑M.cL.length:Int))
 (fq)
 (.test ((↑M.gls.length:Int) != (↑M.gls.length:Int))
 (fq)
 (.test ((↑M.exs.length:Int) != (↑M.exs.length:Int))
 (fq)
 (.test (!M.st==M.st)
 (fq)
 (.test (M.sn != M.sn)
 (fq)
 (.test ((↑M.els.length:Int) != (↑M.els.length:Int))
 (fq)
 (.test ((↑M.bw.length:Int) != (↑M.bw.length:Int))
 (fq)
 (.at (ah aeB env 16 1 [.mp 0 0,.mp 1 0,sI .i64 0] ([.pc M.aH,.pc M.aH]) 0 176)))))))))))))
theorem Vz (M:Mo):aE aeB env acq 1000000 16 ([AV.agg (adP AV.p M.aH),AV.agg (adP AV.p M.aH)]) ([]) aem=MO M:=by kernel_rfl
theorem VB (M:Mo):aE aeB env (aJ aB av [(38,0)] [] []) 1000000 38 ([AV.agg (adP AV.p M.aH),AV.agg (adP AV.p M.aH)]) ([]) (.fin) =
(.at (ah aeB env 38 0 [.mp 0 0,.mp 1 0,sI .i64 0] ([.pc M.aH,.pc M.aH]) 0 175)):=by kernel_rfl
theorem E3 (k:Nat) (i:Nat) (cs:List PV):grow aeB env (aJ aB av [(81,1)] [(81,0,2),(81,0,3)] [(81,0,3)]) 1000000 true (ah aeB env 81 1 ([AV.p (PV.ps k 1 cs),AV.p (PV.ps k 1 cs),sI tp (↑i:Int)]) ([]) 0 26) (.fin) atEnd =
(.test ((bh i k))
 (.must (bE (↑i:Int) k&&true&&(isInt acU (aA cs (aF i*1))&&(bE (↑i:Int) k&&true&&(isInt acU (aA cs (aF i*1))&&true)))&&true)
 (.test (au (aA cs (aF i*1)) != au (aA cs (aF i*1)))
 (.out (.ret (sB false) []))
 (.at (ah aeB env 81 1 [.p (.ps k 1 cs),.p (.ps k 1 cs),sI .i64 (tp.wrap ((↑i:Int)+1))] ([]) 0 26))))
 iT):=by kernel_rfl
theorem E4 (l:List Ins) (i:Nat):grow aeB env (aJ aB av [(80,1)] (fm 80 [(0,2),(8,6),(8,13),(8,20),(8,27),(8,34)]) [(80,0,3)]) 1000000 true (ah aeB env 80 1 ([aL l,aL l,sI tp (↑i:Int)]) ([]) 0 84) (.fork (.fork (jv 5 156).1 (.fork (jv 4 31).1 (.fork (.lit (.lit .fin)) (.fork (.lit .fin) (.fork .fin (.ans 81 (sB true) ([]) (.ans 80 (sB true) ([]) (.ans 80 (sB true) ([]) .fin)))))))) .fin) atEnd =
(.test ((dh i l))
 (.must (bE (↑i:Int) l.length&&true&&true&&(isInt tp (aA (ak l) (aF i*8))&&(isInt tp (aA (ak l) (aF i*8+1))&&(isInt acU (aA (ak l) (aF i*8+1+1))&&(isInt acU (aA (ak l) (aF i*8+1+1+1))&&(isInt aeY (aA (ak l) (aF i*8+1+1+1+1))&&(aX (aA (ak l) (aF i*8+1+1+1+1+1))&&(aX (aA (ak l) (aF i*8+1+1+1+1+1+1))&&(aX (aA (ak l) (aF i*8+1+1+1+1+1+1+1))&&true)))))))&&true&&(bE (↑i:Int) l.length&&true&&true&&(isInt tp (aA (ak l) (aF i*8))&&(isInt tp (aA (ak l) (aF i*8+1))&&(isInt acU (aA (ak l) (aF i*8+1+1))&&(isInt acU (aA (ak l) (aF i*8+1+1+1))&&(isInt aeY (aA (ak l) (aF i*8+1+1+1+1))&&(aX (aA (ak l) (aF i*8+1+1+1+1+1))&&(aX (aA (ak l) (aF i*8+1+1+1+1+1+1))&&(aX (aA (ak l) (aF i*8+1+1+1+1+1+1+1))&&true)))))))&&true&&true)))&&true)
 (.test (au (aA (ak l) (aF i*8)) != au (aA (ak l) (aF i*8)))
 (.out (.ret (sB false) []))
 (.test (au (aA (ak l) (aF i*8+1)) != au (aA (ak l) (aF i*8+1)))
 (.out (.ret (sB false) []))
 (.test (au (aA (ak l) (aF i*8+1+1)) != au (aA (ak l) (aF i*8+1+1)))
 (.out (.ret (sB false) []))
 (.test (au (aA (ak l) (aF i*8+1+1+1)) != au (aA (ak l) (aF i*8+1+1+1)))
 (.out (.ret (sB false) []))
 (.test (au (aA (ak l) (aF i*8+1+1+1+1)) != au (aA (ak l) (aF i*8+1+1+1+1)))
 (.out (.ret (sB false) []))
 (.call ⟨81,[.p (.ps (aq (aA (ak l) (aF i*8+1+1+1+1+1))) (aK (aA (ak l) (aF i*8+1+1+1+1+1))) (aj (aA (ak l) (aF i*8+1+1+1+1+1)))),.p (.ps (aq (aA (ak l) (aF i*8+1+1+1+1+1))) (aK (aA (ak l) (aF i*8+1+1+1+1+1))) (aj (aA (ak l) (aF i*8+1+1+1+1+1))))],[],sB true,[]⟩
 (.call ⟨80,[.p (.ps (aq (aA (ak l) (aF i*8+1+1+1+1+1+1))) (aK (aA (ak l) (aF i*8+1+1+1+1+1+1))) (aj (aA (ak l) (aF i*8+1+1+1+1+1+1)))),.p (.ps (aq (aA (ak l) (aF i*8+1+1+1+1+1+1))) (aK (aA (ak l) (aF i*8+1+1+1+1+1+1))) (aj (aA (ak l) (aF i*8+1+1+1+1+1+1))))],[],sB true,[]⟩
 (.call ⟨80,[.p (.ps (aq (aA (ak l) (aF i*8+1+1+1+1+1+1+1))) (aK (aA (ak l) (aF i*8+1+1+1+1+1+1+1))) (aj (aA (ak l) (aF i*8+1+1+1+1+1+1+1)))),.p (.ps (aq (aA (ak l) (aF i*8+1+1+1+1+1+1+1))) (aK (aA (ak l) (aF i*8+1+1+1+1+1+1+1))) (aj (aA (ak l) (aF i*8+1+1+1+1+1+1+1))))],[],sB true,[]⟩
 (.at (ah aeB env 80 1 [.p (.ps l.length 8 (ak l)),.p (.ps l.length 8 (ak l)),sI .i64 (tp.wrap ((↑i:Int)+1))] ([]) 0 84)))))))))))
 iT):=by kernel_rfl
theorem E5 (M:Mo) (i:Nat):grow aeB env (aJ aB av [(16,1),(16,4)] [(16,0,2),(16,0,3)] [(16,0,3)]) 1000000 true (ah aeB env 16 1 ([AV.mp 0 0,AV.mp 1 0,sI tp (↑i:Int)]) ([bf.pc M.aH,bf.pc M.aH]) 0 176) (.fin) atEnd =
(.test (decide ((↑i:Int)<(↑M.tys.length:Int)))
 (.must (bE (↑i:Int) M.tys.length&&true&&(isInt tp (aA (adw bB M.tys) (aF i*2))&&(isInt tp (aA (adw bB M.tys) (aF i*2+1))&&true)&&(bE (↑i:Int) M.tys.length&&true&&(isInt tp (aA (adw bB M.tys) (aF i*2))&&(isInt tp (aA (adw bB M.tys) (aF i*2+1))&&true)&&true)))&&true)
 (.test (!(fun r=>au (aA (adw bB M.tys) (aF i*2))==au (aA (adw bB M.tys) (aF i*2))&&r) ((fun r=>au (aA (adw bB M.tys) (aF i*2+1))==au (aA (adw bB M.tys) (aF i*2+1))&&r) true))
 (.out (.ret (sB false) []))
 (.at (ah aeB env 16 1 [.mp 0 0,.mp 1 0,sI .i64 (tp.wrap ((↑i:Int)+1))] ([.pc M.aH,.pc M.aH]) 0 176))))
 (.at (ah aeB env 16 4 [.mp 0 0,.mp 1 0,sI .i64 0] ([.pc M.aH,.pc M.aH]) 0 176))):=by kernel_rfl
theorem E6 (M:Mo) (i:Nat):grow aeB env (aJ aB av [(38,0),(38,3)] [(38,0,1),(38,0,2)] [(38,0,2)]) 1000000 true (ah aeB env 38 0 ([AV.mp 0 0,AV.mp 1 0,sI tp (↑i:Int)]) ([bf.pc M.aH,bf.pc M.aH]) 0 175) (.fin) atEnd =
(.test (decide ((↑i:Int)<(↑M.cN.length:Int)))
 (.must (bE (↑i:Int) M.cN.length&&true&&(isInt acU (aA (adw aS M.cN) (aF i*3))&&(isInt acU (aA (adw aS M.cN) (aF i*3+1))&&(isBool (aA (adw aS M.cN) (aF i*3+1+1))&&true))&&(bE (↑i:Int) M.cN.length&&true&&(isInt acU (aA (adw aS M.cN) (aF i*3))&&(isInt acU (aA (adw aS M.cN) (aF i*3+1))&&(isBool (aA (adw aS M.cN) (aF i*3+1+1))&&true))&&true)))&&true)
 (.test (!(fun r=>au (aA (adw aS M.cN) (aF i*3))==au (aA (adw aS M.cN) (aF i*3))&&r) ((fun r=>au (aA (adw aS M.cN) (aF i*3+1))==au (aA (adw aS M.cN) (aF i*3+1))&&r) ((fun r=>aW (aA (adw aS M.cN) (aF i*3+1+1))==aW (aA (adw aS M.cN) (aF i*3+1+1))&&r) true)))
 (.out (.ret (sB false) []))
 (.at (ah aeB env 38 0 [.mp 0 0,.mp 1 0,sI .i64 (tp.wrap ((↑i:Int)+1))] ([.pc M.aH,.pc M.aH]) 0 175))))
 (.at (ah aeB env 38 3 [.mp 0 0,.mp 1 0,sI .i64 0] ([.pc M.aH,.pc M.aH]) 0 175))):=by kernel_rfl
theorem E7 (M:Mo) (i:Nat):grow aeB env (aJ aB av [(38,3),(38,6)] [(38,0,4),(38,0,5)] [(38,0,5)]) 1000000 true (ah aeB env 38 3 ([AV.mp 0 0,AV.mp 1 0,sI tp (↑i:Int)]) ([bf.pc M.aH,bf.pc M.aH]) 0 175) (.fin) atEnd =
(.test (decide ((↑i:Int)<(↑M.cL.length:Int)))
 (.must (bE (↑i:Int) M.cL.length&&true&&(isInt acU (aA (adw aS M.cL) (aF i*3))&&(isInt acU (aA (adw aS M.cL) (aF i*3+1))&&(isBool (aA (adw aS M.cL) (aF i*3+1+1))&&true))&&(bE (↑i:Int) M.cL.length&&true&&(isInt acU (aA (adw aS M.cL) (aF i*3))&&(isInt acU (aA (adw aS M.cL) (aF i*3+1))&&(isBool (aA (adw aS M.cL) (aF i*3+1+1))&&true))&&true)))&&true)
 (.test (!(fun r=>au (aA (adw aS M.cL) (aF i*3))==au (aA (adw aS M.cL) (aF i*3))&&r) ((fun r=>au (aA (adw aS M.cL) (aF i*3+1))==au (aA (adw aS M.cL) (aF i*3+1))&&r) ((fun r=>aW (aA (adw aS M.cL) (aF i*3+1+1))==aW (aA (adw aS M.cL) (aF i*3+1+1))&&r) true)))
 (.out (.ret (sB false) []))
 (.at (ah aeB env 38 3 [.mp 0 0,.mp 1 0,sI .i64 (tp.wrap ((↑i:Int)+1))] ([.pc M.aH,.pc M.aH]) 0 175))))
 (.at (ah aeB env 38 6 [.mp 0 0,.mp 1 0,sI .i64 0] ([.pc M.aH,.pc M.aH]) 0 175))):=by kernel_rfl
theorem E8 (M:Mo) (i:Nat):grow aeB env (aJ aB av [(38,12),(38,15)] [(38,0,13)] [(38,0,14)]) 1000000 true (ah aeB env 38 12 ([AV.mp 0 0,AV.mp 1 0,sI tp (↑i:Int)]) ([bf.pc M.aH,bf.pc M.aH]) 0 175) (.fork (.ou 38 24 (swQ M i 0) .fin) .fin) atEnd =
(.test ((jh i M))
 (.call ⟨80,[.p (.ps (aq (aA (adw aT M.els) (aF i*2+0))) (aK (aA (adw aT M.els) (aF i*2+0))) (aj (aA (adw aT M.els) (aF i*2+0)))),.p (.ps (aq (aA (adw aT M.els) (aF i*2+0))) (aK (aA (adw aT M.els) (aF i*2+0))) (aj (aA (adw aT M.els) (aF i*2+0))))],[],sB true,[]⟩
 (.call ⟨81,[.p (.ps (aq (aA (adw aT M.els) (aF i*2+1))) (aK (aA (adw aT M.els) (aF i*2+1))) (aj (aA (adw aT M.els) (aF i*2+1)))),.p (.ps (aq (aA (adw aT M.els) (aF i*2+1))) (aK (aA (adw aT M.els) (aF i*2+1))) (aj (aA (adw aT M.els) (aF i*2+1))))],[],sB true,[]⟩
 (.must (bE (↑i:Int) M.els.length&&true&&true&&(aX (aA (adw aT M.els) (aF i*2+0))&&true&&(bE (↑i:Int) M.els.length&&true&&true&&(aX (aA (adw aT M.els) (aF i*2+0))&&true&&(bE (↑i:Int) M.els.length&&true&&true&&(aX (aA (adw aT M.els) (aF i*2+1))&&true&&(bE (↑i:Int) M.els.length&&true&&true&&(aX (aA (adw aT M.els) (aF i*2+1))&&true&&true)))))))&&true)
 (.at (ah aeB env 38 12 [.mp 0 0,.mp 1 0,sI .i64 (tp.wrap ((↑i:Int)+1))] ([.pc M.aH,.pc M.aH]) 0 175)))))
 (.at (ah aeB env 38 15 [.mp 0 0,.mp 1 0,sI .i64 0] ([.pc M.aH,.pc M.aH]) 0 175))):=by kernel_rfl
theorem E9 (M:Mo) (i:Nat):grow aeB env (aJ aB av [(38,15)] [(38,0,16)] [(38,0,17)]) 1000000 true (ah aeB env 38 15 ([AV.mp 0 0,AV.mp 1 0,sI tp (↑i:Int)]) ([bf.pc M.aH,bf.pc M.aH]) 0 175) (.fork (.ou 38 29 (swQ M i 0) .fin) .fin) atEnd =
(.test ((ji i M))
 (.call ⟨80,[.p (.ps (aq (aA (adw bz M.bw) (aF i*2+0))) (aK (aA (adw bz M.bw) (aF i*2+0))) (aj (aA (adw bz M.bw) (aF i*2+0)))),.p (.ps (aq (aA (adw bz M.bw) (aF i*2+0))) (aK (aA (adw bz M.bw) (aF i*2+0))) (aj (aA (adw bz M.bw) (aF i*2+0))))],[],sB true,[]⟩
 (.call ⟨82,[.p (.ps (aq (aA (adw bz M.bw) (aF i*2+1))) (aK (aA (adw bz M.bw) (aF i*2+1))) (aj (aA (adw bz M.bw) (aF i*2+1)))),.p (.ps (aq (aA (adw bz M.bw) (aF i*2+1))) (aK (aA (adw bz M.bw) (aF i*2+1))) (aj (aA (adw bz M.bw) (aF i*2+1))))],[],sB true,[]⟩
 (.must (bE (↑i:Int) M.bw.length&&true&&true&&(aX (aA (adw bz M.bw) (aF i*2+0))&&true&&(bE (↑i:Int) M.bw.length&&true&&true&&(aX (aA (adw bz M.bw) (aF i*2+0))&&true&&(bE (↑i:Int) M.bw.length&&true&&true&&(aX (aA (adw bz M.bw) (aF i*2+1))&&true&&(bE (↑i:Int) M.bw.length&&true&&true&&(aX (aA (adw bz M.bw) (aF i*2+1))&&true&&true)))))))&&true)
 (.at (ah aeB env 38 15 [.mp 0 0,.mp 1 0,sI .i64 (tp.wrap ((↑i:Int)+1))] ([.pc M.aH,.pc M.aH]) 0 175)))))
 iT):=by kernel_rfl
theorem Fa (M:Mo) (i:Nat):grow aeB env (aJ aB av [(16,4),(16,7)] [(16,0,5),(16,0,6)] [(16,0,6)]) 1000000 true (ah aeB env 16 4 ([AV.mp 0 0,AV.mp 1 0,sI tp (↑i:Int)]) ([bf.pc M.aH,bf.pc M.aH]) 0 176) (.fin) atEnd =
(.test ((kE i M))
 (.must (bE (↑i:Int) M.aP.length&&true&&(isStr (aA (adw bg M.aP) (aF i*3))&&(isStr (aA (adw bg M.aP) (aF i*3+1))&&(isInt tp (aA (adw bg M.aP) (aF i*3+1+1))&&true))&&(bE (↑i:Int) M.aP.length&&true&&(isStr (aA (adw bg M.aP) (aF i*3))&&(isStr (aA (adw bg M.aP) (aF i*3+1))&&(isInt tp (aA (adw bg M.aP) (aF i*3+1+1))&&true))&&true)))&&true)
 (.test (!(fun r=>(aY (aA (adw bg M.aP) (aF i*3))).data.toList==(aY (aA (adw bg M.aP) (aF i*3))).data.toList&&r) ((fun r=>(aY (aA (adw bg M.aP) (aF i*3+1))).data.toList==(aY (aA (adw bg M.aP) (aF i*3+1))).data.toList&&r) ((fun r=>au (aA (adw bg M.aP) (aF i*3+1+1))==au (aA (adw bg M.aP) (aF i*3+1+1))&&r) true)))
 (.out (.ret (sB false) []))
 (.at (ah aeB env 16 4 [.mp 0 0,.mp 1 0,sI .i64 (tp.wrap ((↑i:Int)+1))] ([.pc M.aH,.pc M.aH]) 0 176))))
 (.at (ah aeB env 16 7 [.mp 0 0,.mp 1 0,sI .i64 0] ([.pc M.aH,.pc M.aH]) 0 176))):=by kernel_rfl
theorem Fb (M:Mo) (i:Nat):grow aeB uV (aJ aB av [(16,7)] [(16,0,8)] [(16,0,9)]) 1000000 true (ah aeB uV 16 7 ([AV.mp 0 0,AV.mp 1 0,sI tp (↑i:Int)]) ([bf.pc M.aH,bf.pc M.aH]) 0 176) (.fork (.ou 16 16 (swQ M i 0) .fin) (.ans 38 (sB true) ([]) .fin)) atEnd =
(.test ((gU i M))
 (.call ⟨37,[.agg [sI .i64 (au (aA (adw aM M.fns) (aF i*3+1))),.p (.ps (aq (aA (adw aM M.fns) (aF i*3+1+1))) (aK (aA (adw aM M.fns) (aF i*3+1+1))) (aj (aA (adw aM M.fns) (aF i*3+1+1))))],.agg [sI .i64 (au (aA (adw aM M.fns) (aF i*3+1))),.p (.ps (aq (aA (adw aM M.fns) (aF i*3+1+1))) (aK (aA (adw aM M.fns) (aF i*3+1+1))) (aj (aA (adw aM M.fns) (aF i*3+1+1))))]],[],sB true,[]⟩
 (.must (bE (↑i:Int) M.fns.length&&true&&true&&(isInt tp (aA (adw aM M.fns) (aF i*3+0))&&true&&(bE (↑i:Int) M.fns.length&&true&&true&&(isInt tp (aA (adw aM M.fns) (aF i*3+0))&&true&&(dy (.p (.sc (.bool (au (aA (adw aM M.fns) (aF i*3+0)) != au (aA (adw aM M.fns) (aF i*3+0)))))) (sB false)&&(bE (↑i:Int) M.fns.length&&true&&true&&(isInt tp (aA (adw aM M.fns) (aF i*3+1))&&(aX (aA (adw aM M.fns) (aF i*3+1+1))&&true)&&true&&(bE (↑i:Int) M.fns.length&&true&&true&&(isInt tp (aA (adw aM M.fns) (aF i*3+1))&&(aX (aA (adw aM M.fns) (aF i*3+1+1))&&true)&&true&&true))))))))&&true)
 (.at (ah aeB uV 16 7 [.mp 0 0,.mp 1 0,sI .i64 (tp.wrap ((↑i:Int)+1))] ([.pc M.aH,.pc M.aH]) 0 176))))
 (.call ⟨38,[.agg (adP AV.p M.aH),.agg (adP AV.p M.aH)],[],sB true,[]⟩
 iT)):=by kernel_rfl
theorem Fc (M:Mo) (i:Nat):grow aeB uV (aJ aB av [(38,6),(38,9)] [(38,0,7)] [(38,0,8)]) 1000000 true (ah aeB uV 38 6 ([AV.mp 0 0,AV.mp 1 0,sI tp (↑i:Int)]) ([bf.pc M.aH,bf.pc M.aH]) 0 175) (.fork (.ou 38 14 (swQ M i 0) .fin) .fin) atEnd =
(.test ((kD i M))
 (.call ⟨80,[.p (.ps (aq (aA (adw bC M.gls) (aF i*2+1))) (aK (aA (adw bC M.gls) (aF i*2+1))) (aj (aA (adw bC M.gls) (aF i*2+1)))),.p (.ps (aq (aA (adw bC M.gls) (aF i*2+1))) (aK (aA (adw bC M.gls) (aF i*2+1))) (aj (aA (adw bC M.gls) (aF i*2+1))))],[],sB true,[]⟩
 (.must (bE (↑i:Int) M.gls.length&&true&&true&&(isBool (aA (adw bC M.gls) (aF i*2+0))&&true&&(bE (↑i:Int) M.gls.length&&true&&true&&(isBool (aA (adw bC M.gls) (aF i*2+0))&&true&&(dy (.p (.sc (.bool !aW (aA (adw bC M.gls) (aF i*2+0))==aW (aA (adw bC M.gls) (aF i*2+0))))) (sB false)&&(bE (↑i:Int) M.gls.length&&true&&true&&(aX (aA (adw bC M.gls) (aF i*2+1))&&true&&(bE (↑i:Int) M.gls.length&&true&&true&&(aX (aA (adw bC M.gls) (aF i*2+1))&&true&&true))))))))&&true)
 (.at (ah aeB uV 38 6 [.mp 0 0,.mp 1 0,sI .i64 (tp.wrap ((↑i:Int)+1))] ([.pc M.aH,.pc M.aH]) 0 175))))
 (.at (ah aeB uV 38 9 [.mp 0 0,.mp 1 0,sI .i64 0] ([.pc M.aH,.pc M.aH]) 0 175))):=by kernel_rfl
theorem Fe (M:Mo) (i:Nat):grow aeB env (aJ aB av [(38,9),(38,12)] [(38,0,10),(38,0,11)] [(38,0,11)]) 1000000 true (ah aeB env 38 9 ([AV.mp 0 0,AV.mp 1 0,sI tp (↑i:Int)]) ([bf.pc M.aH,bf.pc M.aH]) 0 175) (.fin) atEnd =
(.test ((jL i M))
 (.must (bE (↑i:Int) M.exs.length&&true&&(isStr (aA (adw aV M.exs) (aF i*3))&&(isInt tp (aA (adw aV M.exs) (aF i*3+1))&&(isInt acU (aA (adw aV M.exs) (aF i*3+1+1))&&true))&&(bE (↑i:Int) M.exs.length&&true&&(isStr (aA (adw aV M.exs) (aF i*3))&&(isInt tp (aA (adw aV M.exs) (aF i*3+1))&&(isInt acU (aA (adw aV M.exs) (aF i*3+1+1))&&true))&&true)))&&true)
 (.test (!(fun r=>(aY (aA (adw aV M.exs) (aF i*3))).data.toList==(aY (aA (adw aV M.exs) (aF i*3))).data.toList&&r) ((fun r=>au (aA (adw aV M.exs) (aF i*3+1))==au (aA (adw aV M.exs) (aF i*3+1))&&r) ((fun r=>au (aA (adw aV M.exs) (aF i*3+1+1))==au (aA (adw aV M.exs) (aF i*3+1+1))&&r) true)))
 (.out (.ret (sB false) []))
 (.at (ah aeB env 38 9 [.mp 0 0,.mp 1 0,sI .i64 (tp.wrap ((↑i:Int)+1))] ([.pc M.aH,.pc M.aH]) 0 175))))
 (.at (ah aeB env 38 12 [.mp 0 0,.mp 1 0,sI .i64 0] ([.pc M.aH,.pc M.aH]) 0 175))):=by kernel_rfl
theorem nJ {α:Type} {l:List α} {D:Nat→cw} {o:Out} (step : ∀(i:Nat) (x:α),l[i]? = some x→bp aeB env (D (i+1)) o→bp aeB env (D i) o)
  (fin:bp aeB env (D l.length) o):bp aeB env (D 0) o:=by
 have h : ∀r i:Nat,i+r=l.length→bp aeB env (D i) o:=by
  intro r
  induction r with
  |zero=>
   intro i hi
   obtain rfl:i=l.length:=by omega
   exact fin
  |succ r ih=>
   intro i hi
   have hl:i<l.length:=by omega
   exact step i l[i] (df hl) (ih (i+1) (by omega))
 exact h l.length 0 (by omega)
theorem _root_.Go.Am.dZ.env {P:Program} {E E':Env} (he:E.cX=E'.cX) {g:Gh} {c:cw} {fr:Frame} {w:World}:dZ P E g c fr w→dZ P E' g c fr w:=by
 have key : ∀{st:St} {a:Act},dc E g st a w→dc E' g st a w:=fun h=>⟨h.tm,h.nt,h.rel,h.fix,fun i cs hi=>h.cX i cs (by rw[he];exact hi)⟩
 unfold dZ
 split
 · exact id
 · exact id
 · rintro ⟨b,a,t,cv,h1,h2,h3,h4,h5,h6⟩
   exact⟨b,a,t,cv,h1,h2,h3,h4,key h5,h6⟩
 · rintro ⟨b,a,t,h1,h2,h3,h4,h5,h6,h7⟩
   exact⟨b,a,t,h1,h2,h3,h4,h5,h6,key h7⟩
 · rintro ⟨b,a,h1,h2,h3,h4,h5,h6⟩
   exact⟨b,a,h1,h2,h3,h4,key h5,h6⟩
theorem _root_.Go.Am.bp.env {P:Program} {E E':Env} (he:E.cX=E'.cX) {c:cw} {o:Out} (h:bp P E c o):bp P E' c o:=
 fun g fr w cs hr=>h g fr w cs (dZ.env he.symm hr)
theorem Ck {c:cw} {o:Out} (h:bp aeB env c o):bp aeB uV c o:=Go.Am.bp.env (E:=env) (E':=uV) rfl h
theorem xe {c:cw} {o:Out} (h:bp aeB uV c o):bp aeB env c o:=Go.Am.bp.env (E:=uV) (E':=env) rfl h
theorem an.toW {f:FuncId} {args:List AV} {m m':Mem} {v:AV} (h:an aeB env f args m v m'):an aeB uV f args m v m':=h.env fun _ _ q=>q
def jP (f t nt:Nat) (M:Mo) (i:Nat):cw:=ah aeB env f t [.mp 0 0,.mp 1 0,sI .i64 i] [.pc M.aH,.pc M.aH] 0 nt
theorem Cl (l:List Int) (hl:l.length≤1000000):an aeB env 81 [.p (.ps l.length 1 (dg .u32 l)),.p (.ps l.length 1 (dg .u32 l))] [] (sB true) []:=by
 refine aa aI (Vv l.length (dg .u32 l)) ?_
 simp only[aG.ok,bne_self_eq_false]
 refine⟨nofun,fun _=> ?_⟩
 refine nJ (l:=l) (D:=fun i=>ah aeB env 81 1 [.p (.ps l.length 1 (dg .u32 l)),.p (.ps l.length 1 (dg .u32 l)),sI .i64 i] [] 0 26) (fun i x hx h=> ?_) ?_
 · have hi:i<l.length:=(dt.1 hx).1
   have c0:(dg .u32 l).getD (i*1) .aU = .sc (.int .u32 (l.getD i 0)):=by rw[aez];exact kN .u32 l i hi
   have w:=fk i (by omega)
   have hd:=kj (i:=i) (n:=l.length) (by omega)
   have hin:=kg (i:=i) (n:=l.length) (by omega)
   refine af aI (E3 l.length i (dg .u32 l)) ?_
   simp only[bh,br,aG.ok,isInt,au,aeL,c0,hd,hin,w,bne_self_eq_false,aeN]
   exact⟨fun _=>⟨(by first|rfl|trivial),(fun q=>(by cases q)),fun _=>h⟩,fun q=>(by cases q)⟩
 · have hd:=lP l.length
   refine af aI (E3 l.length l.length (dg .u32 l)) ?_
   simp only[bh,br,aG.ok,hd]
   exact⟨nofun,fun _=>trivial⟩
theorem Jn : ∀l:List Int,(dg .u8 l).all isByte=true
 |[]=>rfl
 |x::r=>by
  have h:=Jn r
  simp only[dg,mi,List.all_cons,isByte,aeO] at h ⊢
  exact h
theorem Lu (l:List Int):an aeB env 82 [.p (.ps l.length 1 (dg .u8 l)),.p (.ps l.length 1 (dg .u8 l))] [] (sB true) []:=by
 refine aa aI (Vw l.length (dg .u8 l)) ?_
 simp only[aG.ok,Jn,beq_self_eq_true,aeN]
 exact⟨trivial,trivial,trivial⟩
theorem kX : ∀(N:Nat) (l:List Ins),gx l≤N→gx l≤1000000→an aeB env 80 [aL l,aL l] [] (sB true) []
 |N,l,hN,hc=>by
  have IH : ∀y∈l,an aeB env 80 [aL y.l,aL y.l] [] (sB true) []∧an aeB env 80 [aL y.e,aL y.e] [] (sB true) []:=by
   intro y hy
   have hcy:=nq hy
   obtain⟨op,rs,a,b,nn,tags,ll,le⟩:=y
   simp only[uM] at hcy
   match N,hN with
   |0,hN=>omega
   |N+1,hN=>exact⟨kX N ll (by omega) (by omega),kX N le (by omega) (by omega)⟩
  have MZ:=rT l
  refine aa aI (Vx l) ?_
  simp only[aG.ok,bne_self_eq_false]
  refine⟨nofun,fun _=> ?_⟩
  refine nJ (l:=l) (D:=fun i=>ah aeB env 80 1 [aL l,aL l,sI .i64 i] [] 0 84) (fun i x hx h=> ?_) ?_
  · have hi:i<l.length:=(dt.1 hx).1
    have hmem:=mf hx
    have uq:=IH x hmem
    have hcx:=nq hmem
    obtain⟨op,rs,a,b,nn,tags,ll,le⟩:=x
    obtain⟨c0,c1,c2,c3,c4,c5,c6,c7⟩:=hY hx
    simp only[uM] at hcx
    have w:=fk i (by omega)
    have hd:=kj (i:=i) (n:=l.length) (by omega)
    have hin:=kg (i:=i) (n:=l.length) (by omega)
    refine af aI (E4 l i) ?_
    simp only[dh,br,aG.ok,bm,aex,c0,c1,c2,c3,c4,c5,c6,c7,isInt,aX,au,aq,aK,aj,aeL,hd,hin,w,bne_self_eq_false,aeN,aeO]
    exact⟨fun _=>⟨(by first|rfl|trivial),(fun q=>(by cases q)),fun _=>⟨(fun q=>(by cases q)),fun _=>⟨(fun q=>(by cases q)),fun _=>⟨(fun q=>(by cases q)),fun _=>⟨(fun q=>(by cases q)),fun _=>⟨Cl tags (by omega),uq.1,uq.2,h⟩⟩⟩⟩⟩⟩,fun q=>(by cases q)⟩
  · have hd:=lP l.length
    refine af aI (E4 l l.length) ?_
    simp only[dh,br,aG.ok,hd]
    exact⟨nofun,fun _=>trivial⟩
theorem Lv (lo:Int) (l:List Ins) (hc:gx l≤1000000):an aeB env 37 [.agg [sI .i64 lo,aL l],.agg [sI .i64 lo,aL l]] [] (sB true) []:=by
 refine aa aI (Vy lo l) ?_
 simp only[br,aG.ok,beq_self_eq_true]
 exact⟨fun _=>⟨kX _ l (aw _) hc,trivial⟩,fun q=>by cases q⟩
theorem O9 (M:Mo) (hl:M.tys.length≤1000000) (o:Out) (i:Nat) (x:Ty) (hx:M.tys[i]? = some x) (h:bp aeB env (jP 16 1 176 M (i+1)) o):bp aeB env (jP 16 1 176 M i) o:=by
 have hi:i<M.tys.length:=(dt.1 hx).1
 have hmem:=mf hx
 have c:=aQ (z:=2) (enc:=bB) (fun _=>rfl) hx
 have kR:(M.tys.flatMap bB).getD (i*2) .aU = .sc (.int .i64 x.p):=c 0 (by decide)
 have mJ:(M.tys.flatMap bB).getD (i*2+0) .aU = .sc (.int .i64 x.p):=c 0 (by decide)
 have xu:(M.tys.flatMap bB).getD (i*2+1) .aU = .sc (.int .i64 x.r):=c 1 (by decide)
 have w:=fk i (by omega)
 have hd:=kj (i:=i) (n:=M.tys.length) (by omega)
 have hin:=kg (i:=i) (n:=M.tys.length) (by omega)
 unfold jP at *
 refine af aI (E5 M i) ?_
 simp only[br,aG.ok,isStr,isInt,aX,isBool,aY,au,aW,aq,aK,aj,aeL,aeN,aeO,beq_self_eq_true,bne_self_eq_false,xv,ag2,pD,ag1,kR,mJ,xu,hd,hin,w]
 exact⟨fun _=>⟨(by first|rfl|trivial|(simp[dy,oF,GC];done)),(fun q=>(by cases q)),fun _=>h⟩,fun q=>(by cases q)⟩
theorem VC (M:Mo) (o:Out) (h:bp aeB env (jP 16 4 176 M 0) o):bp aeB env (jP 16 1 176 M M.tys.length) o:=by
 have hd:=lP M.tys.length
 unfold jP at *
 refine af aI (E5 M M.tys.length) ?_
 simp only[br,aG.ok,hd]
 exact⟨nofun,fun _=>h⟩
theorem Pa (M:Mo) (hl:M.aP.length≤1000000) (o:Out) (i:Nat) (x:Im) (hx:M.aP[i]? = some x) (h:bp aeB env (jP 16 4 176 M (i+1)) o):bp aeB env (jP 16 4 176 M i) o:=by
 have hi:i<M.aP.length:=(dt.1 hx).1
 have hmem:=mf hx
 have c:=aQ (z:=3) (enc:=bg) (fun _=>rfl) hx
 have kR:(M.aP.flatMap bg).getD (i*3) .aU = .sc (.string x.mo):=c 0 (by decide)
 have mJ:(M.aP.flatMap bg).getD (i*3+0) .aU = .sc (.string x.mo):=c 0 (by decide)
 have xu:(M.aP.flatMap bg).getD (i*3+1) .aU = .sc (.string x.nm):=c 1 (by decide)
 have KH:(M.aP.flatMap bg).getD (i*3+1+1) .aU = .sc (.int .i64 x.ty):=c 2 (by decide)
 have KI:(M.aP.flatMap bg).getD (i*3+2) .aU = .sc (.int .i64 x.ty):=c 2 (by decide)
 have w:=fk i (by omega)
 have hd:=kj (i:=i) (n:=M.aP.length) (by omega)
 have hin:=kg (i:=i) (n:=M.aP.length) (by omega)
 unfold jP at *
 refine af aI (Fa M i) ?_
 simp only[kE,br,aG.ok,isStr,isInt,aX,isBool,aY,au,aW,aq,aK,aj,aeL,aeN,aeO,beq_self_eq_true,bne_self_eq_false,xv,ag2,pD,ag1,kR,mJ,xu,KH,KI,hd,hin,w]
 exact⟨fun _=>⟨(by first|rfl|trivial|(simp[dy,oF,GC];done)),(fun q=>(by cases q)),fun _=>h⟩,fun q=>(by cases q)⟩
theorem VD (M:Mo) (o:Out) (h:bp aeB env (jP 16 7 176 M 0) o):bp aeB env (jP 16 4 176 M M.aP.length) o:=by
 have hd:=lP M.aP.length
 unfold jP at *
 refine af aI (Fa M M.aP.length) ?_
 simp only[kE,br,aG.ok,hd]
 exact⟨nofun,fun _=>h⟩
theorem uW (vs:List AV) (m:Mem):ah aeB uV 16 7 vs m 0 176=ah aeB env 16 7 vs m 0 176:=by kernel_rfl
theorem Pb (M:Mo) (hl:M.fns.length≤1000000) (hc : ∀x∈M.fns,gx x.l≤1000000) (o:Out) (i:Nat) (x:Fu) (hx:M.fns[i]? = some x) (h:bp aeB env (jP 16 7 176 M (i+1)) o):bp aeB env (jP 16 7 176 M i) o:=by
 have hi:i<M.fns.length:=(dt.1 hx).1
 have hmem:=mf hx
 have c:=aQ (z:=3) (enc:=aM) (fun _=>rfl) hx
 have kR:(M.fns.flatMap aM).getD (i*3) .aU = .sc (.int .i64 x.ty):=c 0 (by decide)
 have mJ:(M.fns.flatMap aM).getD (i*3+0) .aU = .sc (.int .i64 x.ty):=c 0 (by decide)
 have xu:(M.fns.flatMap aM).getD (i*3+1) .aU = .sc (.int .i64 x.lo):=c 1 (by decide)
 have KH:(M.fns.flatMap aM).getD (i*3+1+1) .aU=pL x.l:=c 2 (by decide)
 have KI:(M.fns.flatMap aM).getD (i*3+2) .aU=pL x.l:=c 2 (by decide)
 have w:=fk i (by omega)
 have hd:=kj (i:=i) (n:=M.fns.length) (by omega)
 have hin:=kg (i:=i) (n:=M.fns.length) (by omega)
 unfold jP at *
 rw[←uW]
 refine xe ?_
 refine af aI (Fb M i) ?_
 simp only[gU,br,aG.ok,isStr,isInt,aX,isBool,aY,au,aW,aq,aK,aj,aeL,aeN,aeO,beq_self_eq_true,bne_self_eq_false,xv,ag2,pD,ag1,kR,mJ,xu,KH,KI,hd,hin,w]
 exact⟨fun _=>⟨an.toW (Lv x.lo x.l (hc x hmem)),(by first|rfl|trivial|(simp[dy,oF,GC];done)),(by rw[uW];exact Ck h)⟩,fun q=>(by cases q)⟩
theorem VE (M:Mo) (o:Out) (h:an aeB env 38 [.agg (M.aH.map .p),.agg (M.aH.map .p)] [] (sB true) []∧Out.ret (sB true) []=o):bp aeB env (jP 16 7 176 M M.fns.length) o:=by
 have hd:=lP M.fns.length
 unfold jP at *
 rw[←uW]
 refine xe ?_
 refine af aI (Fb M M.fns.length) ?_
 simp only[gU,br,aG.ok,hd]
 exact⟨nofun,fun _=>⟨an.toW h.1,h.2⟩⟩
theorem Pc (M:Mo) (hl:M.cN.length≤1000000) (o:Out) (i:Nat) (x:Li) (hx:M.cN[i]? = some x) (h:bp aeB env (jP 38 0 175 M (i+1)) o):bp aeB env (jP 38 0 175 M i) o:=by
 have hi:i<M.cN.length:=(dt.1 hx).1
 have hmem:=mf hx
 have c:=aQ (z:=3) (enc:=aS) (fun _=>rfl) hx
 have kR:(M.cN.flatMap aS).getD (i*3) .aU = .sc (.int .u32 x.mn):=c 0 (by decide)
 have mJ:(M.cN.flatMap aS).getD (i*3+0) .aU = .sc (.int .u32 x.mn):=c 0 (by decide)
 have xu:(M.cN.flatMap aS).getD (i*3+1) .aU = .sc (.int .u32 x.mx):=c 1 (by decide)
 have KH:(M.cN.flatMap aS).getD (i*3+1+1) .aU = .sc (.bool x.cap):=c 2 (by decide)
 have KI:(M.cN.flatMap aS).getD (i*3+2) .aU = .sc (.bool x.cap):=c 2 (by decide)
 have w:=fk i (by omega)
 have hd:=kj (i:=i) (n:=M.cN.length) (by omega)
 have hin:=kg (i:=i) (n:=M.cN.length) (by omega)
 unfold jP at *
 refine af aI (E6 M i) ?_
 simp only[br,aG.ok,isStr,isInt,aX,isBool,aY,au,aW,aq,aK,aj,aeL,aeN,aeO,beq_self_eq_true,bne_self_eq_false,xv,ag2,pD,ag1,kR,mJ,xu,KH,KI,hd,hin,w]
 exact⟨fun _=>⟨(by first|rfl|trivial|(simp[dy,oF,GC];done)),(fun q=>(by cases q)),fun _=>h⟩,fun q=>(by cases q)⟩
theorem VF (M:Mo) (o:Out) (h:bp aeB env (jP 38 3 175 M 0) o):bp aeB env (jP 38 0 175 M M.cN.length) o:=by
 have hd:=lP M.cN.length
 unfold jP at *
 refine af aI (E6 M M.cN.length) ?_
 simp only[br,aG.ok,hd]
 exact⟨nofun,fun _=>h⟩
theorem Pd (M:Mo) (hl:M.cL.length≤1000000) (o:Out) (i:Nat) (x:Li) (hx:M.cL[i]? = some x) (h:bp aeB env (jP 38 3 175 M (i+1)) o):bp aeB env (jP 38 3 175 M i) o:=by
 have hi:i<M.cL.length:=(dt.1 hx).1
 have hmem:=mf hx
 have c:=aQ (z:=3) (enc:=aS) (fun _=>rfl) hx
 have kR:(M.cL.flatMap aS).getD (i*3) .aU = .sc (.int .u32 x.mn):=c 0 (by decide)
 have mJ:(M.cL.flatMap aS).getD (i*3+0) .aU = .sc (.int .u32 x.mn):=c 0 (by decide)
 have xu:(M.cL.flatMap aS).getD (i*3+1) .aU = .sc (.int .u32 x.mx):=c 1 (by decide)
 have KH:(M.cL.flatMap aS).getD (i*3+1+1) .aU = .sc (.bool x.cap):=c 2 (by decide)
 have KI:(M.cL.flatMap aS).getD (i*3+2) .aU = .sc (.bool x.cap):=c 2 (by decide)
 have w:=fk i (by omega)
 have hd:=kj (i:=i) (n:=M.cL.length) (by omega)
 have hin:=kg (i:=i) (n:=M.cL.length) (by omega)
 unfold jP at *
 refine af aI (E7 M i) ?_
 simp only[br,aG.ok,isStr,isInt,aX,isBool,aY,au,aW,aq,aK,aj,aeL,aeN,aeO,beq_self_eq_true,bne_self_eq_false,xv,ag2,pD,ag1,kR,mJ,xu,KH,KI,hd,hin,w]
 exact⟨fun _=>⟨(by first|rfl|trivial|(simp[dy,oF,GC];done)),(fun q=>(by cases q)),fun _=>h⟩,fun q=>(by cases q)⟩
theorem VG (M:Mo) (o:Out) (h:bp aeB env (jP 38 6 175 M 0) o):bp aeB env (jP 38 3 175 M M.cL.length) o:=by
 have hd:=lP M.cL.length
 unfold jP at *
 refine af aI (E7 M M.cL.length) ?_
 simp only[br,aG.ok,hd]
 exact⟨nofun,fun _=>h⟩
theorem uX (vs:List AV) (m:Mem):ah aeB uV 38 6 vs m 0 175=ah aeB env 38 6 vs m 0 175:=by kernel_rfl
theorem Jo (vs:List AV) (m:Mem):ah aeB uV 38 9 vs m 0 175=ah aeB env 38 9 vs m 0 175:=by kernel_rfl
theorem Pe (M:Mo) (hl:M.gls.length≤1000000) (hc : ∀x∈M.gls,gx x.l≤1000000) (o:Out) (i:Nat) (x:Gl) (hx:M.gls[i]? = some x) (h:bp aeB env (jP 38 6 175 M (i+1)) o):bp aeB env (jP 38 6 175 M i) o:=by
 have hi:i<M.gls.length:=(dt.1 hx).1
 have hmem:=mf hx
 have c:=aQ (z:=2) (enc:=bC) (fun _=>rfl) hx
 have kR:(M.gls.flatMap bC).getD (i*2) .aU = .sc (.bool x.mu):=c 0 (by decide)
 have mJ:(M.gls.flatMap bC).getD (i*2+0) .aU = .sc (.bool x.mu):=c 0 (by decide)
 have xu:(M.gls.flatMap bC).getD (i*2+1) .aU=pL x.l:=c 1 (by decide)
 have w:=fk i (by omega)
 have hd:=kj (i:=i) (n:=M.gls.length) (by omega)
 have hin:=kg (i:=i) (n:=M.gls.length) (by omega)
 unfold jP at *
 rw[←uX]
 refine xe ?_
 refine af aI (Fc M i) ?_
 simp only[kD,br,aG.ok,isStr,isInt,aX,isBool,aY,au,aW,aq,aK,aj,aeL,aeN,aeO,beq_self_eq_true,bne_self_eq_false,xv,ag2,pD,ag1,kR,mJ,xu,hd,hin,w]
 exact⟨fun _=>⟨an.toW (kX _ x.l (aw _) (hc x hmem)),(by first|rfl|trivial|(simp[dy,oF,GC];done)),(by rw[uX];exact Ck h)⟩,fun q=>(by cases q)⟩
theorem VH (M:Mo) (o:Out) (h:bp aeB env (jP 38 9 175 M 0) o):bp aeB env (jP 38 6 175 M M.gls.length) o:=by
 have hd:=lP M.gls.length
 unfold jP at *
 rw[←uX]
 refine xe ?_
 refine af aI (Fc M M.gls.length) ?_
 simp only[kD,br,aG.ok,hd]
 exact⟨nofun,fun _=>(by rw[Jo];exact Ck h)⟩
theorem Pf (M:Mo) (hl:M.exs.length≤1000000) (o:Out) (i:Nat) (x:Ex) (hx:M.exs[i]? = some x) (h:bp aeB env (jP 38 9 175 M (i+1)) o):bp aeB env (jP 38 9 175 M i) o:=by
 have hi:i<M.exs.length:=(dt.1 hx).1
 have hmem:=mf hx
 have c:=aQ (z:=3) (enc:=aV) (fun _=>rfl) hx
 have kR:(M.exs.flatMap aV).getD (i*3) .aU = .sc (.string x.nm):=c 0 (by decide)
 have mJ:(M.exs.flatMap aV).getD (i*3+0) .aU = .sc (.string x.nm):=c 0 (by decide)
 have xu:(M.exs.flatMap aV).getD (i*3+1) .aU = .sc (.int .i64 x.kind):=c 1 (by decide)
 have KH:(M.exs.flatMap aV).getD (i*3+1+1) .aU = .sc (.int .u32 x.ix):=c 2 (by decide)
 have KI:(M.exs.flatMap aV).getD (i*3+2) .aU = .sc (.int .u32 x.ix):=c 2 (by decide)
 have w:=fk i (by omega)
 have hd:=kj (i:=i) (n:=M.exs.length) (by omega)
 have hin:=kg (i:=i) (n:=M.exs.length) (by omega)
 unfold jP at *
 refine af aI (Fe M i) ?_
 simp only[jL,br,aG.ok,isStr,isInt,aX,isBool,aY,au,aW,aq,aK,aj,aeL,aeN,aeO,beq_self_eq_true,bne_self_eq_false,xv,ag2,pD,ag1,kR,mJ,xu,KH,KI,hd,hin,w]
 exact⟨fun _=>⟨(by first|rfl|trivial|(simp[dy,oF,GC];done)),(fun q=>(by cases q)),fun _=>h⟩,fun q=>(by cases q)⟩
theorem VI (M:Mo) (o:Out) (h:bp aeB env (jP 38 12 175 M 0) o):bp aeB env (jP 38 9 175 M M.exs.length) o:=by
 have hd:=lP M.exs.length
 unfold jP at *
 refine af aI (Fe M M.exs.length) ?_
 simp only[jL,br,aG.ok,hd]
 exact⟨nofun,fun _=>h⟩
theorem Pg (M:Mo) (hl:M.els.length≤1000000) (hc : ∀x∈M.els,gx x.l≤1000000∧x.fs.length≤1000000) (o:Out) (i:Nat) (x:El) (hx:M.els[i]? = some x) (h:bp aeB env (jP 38 12 175 M (i+1)) o):bp aeB env (jP 38 12 175 M i) o:=by
 have hi:i<M.els.length:=(dt.1 hx).1
 have hmem:=mf hx
 have c:=aQ (z:=2) (enc:=aT) (fun _=>rfl) hx
 have kR:(M.els.flatMap aT).getD (i*2) .aU=pL x.l:=c 0 (by decide)
 have mJ:(M.els.flatMap aT).getD (i*2+0) .aU=pL x.l:=c 0 (by decide)
 have xu:(M.els.flatMap aT).getD (i*2+1) .aU=pT .u32 x.fs:=c 1 (by decide)
 have w:=fk i (by omega)
 have hd:=kj (i:=i) (n:=M.els.length) (by omega)
 have hin:=kg (i:=i) (n:=M.els.length) (by omega)
 unfold jP at *
 refine af aI (E8 M i) ?_
 simp only[jh,br,aG.ok,isStr,isInt,aX,isBool,aY,au,aW,aq,aK,aj,aeL,aeN,aeO,beq_self_eq_true,bne_self_eq_false,xv,ag2,pD,ag1,kR,mJ,xu,hd,hin,w]
 exact⟨fun _=>⟨(kX _ x.l (aw _) (hc x hmem).1),(Cl x.fs (hc x hmem).2),(by first|rfl|trivial|(simp[dy,oF,GC];done)),h⟩,fun q=>(by cases q)⟩
theorem VJ (M:Mo) (o:Out) (h:bp aeB env (jP 38 15 175 M 0) o):bp aeB env (jP 38 12 175 M M.els.length) o:=by
 have hd:=lP M.els.length
 unfold jP at *
 refine af aI (E8 M M.els.length) ?_
 simp only[jh,br,aG.ok,hd]
 exact⟨nofun,fun _=>h⟩
theorem Ph (M:Mo) (hl:M.bw.length≤1000000) (hc : ∀x∈M.bw,gx x.l≤1000000∧x.bs.length≤1000000) (o:Out) (i:Nat) (x:Da) (hx:M.bw[i]? = some x) (h:bp aeB env (jP 38 15 175 M (i+1)) o):bp aeB env (jP 38 15 175 M i) o:=by
 have hi:i<M.bw.length:=(dt.1 hx).1
 have hmem:=mf hx
 have c:=aQ (z:=2) (enc:=bz) (fun _=>rfl) hx
 have kR:(M.bw.flatMap bz).getD (i*2) .aU=pL x.l:=c 0 (by decide)
 have mJ:(M.bw.flatMap bz).getD (i*2+0) .aU=pL x.l:=c 0 (by decide)
 have xu:(M.bw.flatMap bz).getD (i*2+1) .aU=pT .u8 x.bs:=c 1 (by decide)
 have w:=fk i (by omega)
 have hd:=kj (i:=i) (n:=M.bw.length) (by omega)
 have hin:=kg (i:=i) (n:=M.bw.length) (by omega)
 unfold jP at *
 refine af aI (E9 M i) ?_
 simp only[ji,br,aG.ok,isStr,isInt,aX,isBool,aY,au,aW,aq,aK,aj,aeL,aeN,aeO,beq_self_eq_true,bne_self_eq_false,xv,ag2,pD,ag1,kR,mJ,xu,hd,hin,w]
 exact⟨fun _=>⟨(kX _ x.l (aw _) (hc x hmem).1),(Lu x.bs),(by first|rfl|trivial|(simp[dy,oF,GC];done)),h⟩,fun q=>(by cases q)⟩
theorem VK (M:Mo) (o:Out) (h:Out.ret (sB true) []=o):bp aeB env (jP 38 15 175 M M.bw.length) o:=by
 have hd:=lP M.bw.length
 unfold jP at *
 refine af aI (E9 M M.bw.length) ?_
 simp only[ji,br,aG.ok,hd]
 exact⟨nofun,fun _=>h⟩
theorem Lw (M:Mo) (hM:M.fit) (hn:M.O8):an aeB env 38 [.agg (M.aH.map .p),.agg (M.aH.map .p)] [] (sB true) []:=by
 refine aa aI (VB M) ?_
 refine nJ (D:=jP 38 0 175 M) (Pc M hM.cN _) (VF M _ ?_)
 refine nJ (D:=jP 38 3 175 M) (Pd M hM.cL _) (VG M _ ?_)
 refine nJ (D:=jP 38 6 175 M) (Pe M hM.gls hn.gls _) (VH M _ ?_)
 refine nJ (D:=jP 38 9 175 M) (Pf M hM.exs _) (VI M _ ?_)
 refine nJ (D:=jP 38 12 175 M) (Pg M hM.els hn.els _) (VJ M _ ?_)
 exact nJ (D:=jP 38 15 175 M) (Ph M hM.bw hn.bw _) (VK M _ rfl)
theorem Ly (M:Mo) (hM:M.fit) (hn:M.O8):an aeB env 16 [.agg (M.aH.map .p),.agg (M.aH.map .p)] [] (sB true) []:=by
 refine aa aI (Vz M) ?_
 have hb:(!M.st==M.st)=false:=by cases M.st<;>rfl
 simp only[MO,fq,aG.ok,bne_self_eq_false,hb]
 refine⟨nofun,fun _=>⟨nofun,fun _=>⟨nofun,fun _=>⟨nofun,fun _=>⟨nofun,fun _=>⟨nofun,fun _=>⟨nofun,fun _=>⟨nofun,fun _=>⟨nofun,fun _=>⟨nofun,fun _=>⟨nofun,fun _=> ?_⟩⟩⟩⟩⟩⟩⟩⟩⟩⟩⟩
 refine nJ (D:=jP 16 1 176 M) (O9 M hM.tys _) (VC M _ ?_)
 refine nJ (D:=jP 16 4 176 M) (Pa M hM.aP _) (VD M _ ?_)
 exact nJ (D:=jP 16 7 176 M) (Pb M hM.fns hn.fns _) (VE M _ ⟨Lw M hM hn,rfl⟩)
theorem VL (c:Int):aE aeB env (aJ aB av [] (fm 150 [(0,0),(4,3),(0,1),(6,3),(0,2),(8,3),(0,3)]) []) 1000000 150 ([sI aeZ c]) ([]) (jv 8 10166866229).1 =
(.test (decide (c<128))
 (.out (.ret (.aD [sI .i64 (tp.wrap c),sI .i64 0,sB true]) []))
 (.test (decide (c≥192))
 (.test (decide (c<224))
 (.out (.ret (.aD [sI .i64 (tp.wrap (tp.wrap c-192)),sI .i64 1,sB true]) []))
 (.must (decide (c≥224))
 (.test (decide (c<240))
 (.out (.ret (.aD [sI .i64 (tp.wrap (tp.wrap c-224)),sI .i64 2,sB true]) []))
 (.must (decide (c≥240))
 (.test (decide (c<248))
 (.out (.ret (.aD [sI .i64 (tp.wrap (tp.wrap c-240)),sI .i64 3,sB true]) []))
 (.out (.ret (.aD [sI .i64 0,sI .i64 0,sB false]) [])))))))
 (.must (!(decide (c≥224)))
 (.must (!(decide (c≥240)))
 (.out (.ret (.aD [sI .i64 0,sI .i64 0,sB false]) [])))))):=by kernel_rfl
theorem VM (n:Nat) (cs:List PV) (i:Int):aE aeB env (aJ aB av [] (fm 151 [(2,5),(2,12),(0,0)]) (fm 151 [(2,7),(2,8),(2,14),(2,15),(4,2),(4,3)])) 1000000 151 ([AV.p (PV.ps n 1 cs),sI tp i]) ([]) (jv 4 5659).1 =
(.test (decide (i≥(↑n:Int)))
 (.out (.ret (.aD [sI .i64 0,sB false]) []))
 (.must (bE i n&&true&&true)
 (.must (isInt aeZ (aA cs (i.toNat*1))&&true)
 (.test (decide (au (aA cs (i.toNat*1))<128))
 (.out (.ret (.aD [sI .i64 0,sB false]) []))
 (.must (bE i n&&true&&true)
 (.must (isInt aeZ (aA cs (i.toNat*1))&&true)
 (.test (decide (au (aA cs (i.toNat*1))≥192))
 (.out (.ret (.aD [sI .i64 0,sB false]) []))
 (.must (bE i n&&true&&true)
 (.must (isInt aeZ (aA cs (i.toNat*1))&&true)
 (.out (.ret (.aD [sI .i64 (tp.wrap (tp.wrap (au (aA cs (i.toNat*1)))-128)),sB true]) []))))))))))):=by kernel_rfl
theorem VN (n:Int):aE aeB env (aJ aB av [] (fm 152 [(2,3),(2,7),(2,10)]) []) 1000000 152 ([sI tp n]) ([]) (.fork .fin (.lit .fin)) =
(.test (decide (n≥0))
 (.test (decide (n≤1114111))
 (.test (decide (n<55296))
 iT
 (.out (.ret (.p (.sc (.bool (decide (n>57343))))) [])))
 (.out (.ret (sB false) [])))
 (.out (.ret (sB false) []))):=by kernel_rfl
theorem VO (n:Int):aE aeB env (aJ aB av [] (fm 153 [(0,0),(0,1),(0,2)]) []) 1000000 153 ([sI tp n]) ([]) (.fin) =
(.test (decide (n<128))
 (.out (.ret (.os none 1 1 [.sc (.int .u8 (aeZ.wrap n))]) []))
 (.test (decide (n<2048))
 (.out (.ret (.os none 2 1 [.sc (.int .u8 (aeZ.wrap (tp.wrap (192+tp.wrap (n.tdiv 64))))),.sc (.int .u8 (aeZ.wrap (tp.wrap (128+n.tmod 64))))]) []))
 (.test (decide (n<65536))
 (.out (.ret (.os none 3 1 [.sc (.int .u8 (aeZ.wrap (tp.wrap (224+tp.wrap (n.tdiv 4096))))),.sc (.int .u8 (aeZ.wrap (tp.wrap (128+(tp.wrap (n.tdiv 64)).tmod 64)))),.sc (.int .u8 (aeZ.wrap (tp.wrap (128+n.tmod 64))))]) []))
 (.out (.ret (.os none 4 1 [.sc (.int .u8 (aeZ.wrap (tp.wrap (240+tp.wrap (n.tdiv 262144))))),.sc (.int .u8 (aeZ.wrap (tp.wrap (128+(tp.wrap (n.tdiv 4096)).tmod 64)))),.sc (.int .u8 (aeZ.wrap (tp.wrap (128+(tp.wrap (n.tdiv 64)).tmod 64)))),.sc (.int .u8 (aeZ.wrap (tp.wrap (128+n.tmod 64))))]) []))))):=by kernel_rfl
abbrev oC (x0:List PV) (x1:Nat):Bool:=isInt aeZ (aA x0 (aF x1*1))&&true
theorem Pj (n:Nat) (cs:List PV) (i:Nat) (n0 t1 t2 t3:Int) (b1:Bool) (b2:Bool) (b3:Bool) (rn:Bool) (k:Nat) (os:List PV):aE aeB env (aJ aB av [] [(127,12,6)] [(127,2,2),(127,2,3)]) 1000000 127 ([AV.p (PV.ps n 1 cs),sI tp (↑i:Int)]) ([]) (.ans 150 (.aD [sI .i64 n0,sI .i64 0,sB true]) ([]) (.ans 152 (.p (.sc (.bool rn))) ([]) (.fork (.ans 153 (.p (.ps k 1 os)) ([]) .fin) .fin))) =
(.must ((bA i n))
 (.must ((oC cs i))
 (.call ⟨150,[sI .u8 (au (aA cs (aF i*1)))],[],.aD [sI .i64 n0,sI .i64 0,sB true],[]⟩
 (.call ⟨152,[sI .i64 n0],[],.p (.sc (.bool rn)),[]⟩
 (.test (rn)
 (.call ⟨153,[sI .i64 n0],[],.p (.ps k 1 os),[]⟩
 (.out (.ret (.aD [sI .i64 n0,sI .i64 1,.p (.sc (.bool ((↑k:Int)==1)))]) [])))
 (.out (.ret (.aD [sI .i64 n0,sI .i64 1,sB false]) []))))))):=by kernel_rfl
abbrev nK (x0:Int) (x1:Bool):AV:= .aD [sI .i64 x0,.p (.sc (.bool x1))]
theorem Pk (n:Nat) (cs:List PV) (i:Nat) (n0 t1 t2 t3:Int) (b1:Bool) (b2:Bool) (b3:Bool) (rn:Bool) (k:Nat) (os:List PV):aE aeB env (aJ aB av [] [(127,0,3),(127,12,6)] [(127,2,2),(127,2,3)]) 1000000 127 ([AV.p (PV.ps n 1 cs),sI tp (↑i:Int)]) ([]) (.ans 150 (.aD [sI .i64 n0,sI .i64 1,sB true]) ([]) (.ans 151 ((nK t1 b1)) ([]) (.fork .fin (.ans 152 (.p (.sc (.bool rn))) ([]) (.fork (.ans 153 (.p (.ps k 1 os)) ([]) .fin) .fin))))) =
(.must ((bA i n))
 (.must ((oC cs i))
 (.call ⟨150,[sI .u8 (au (aA cs (aF i*1)))],[],.aD [sI .i64 n0,sI .i64 1,sB true],[]⟩
 (.call ⟨151,[.p (.ps n 1 cs),sI .i64 (tp.wrap ((↑i:Int)+1))],[],(nK t1 b1),[]⟩
 (.test (!b1)
 (.out (.ret (.aD [sI .i64 0,sI .i64 0,sB false]) []))
 (.call ⟨152,[sI .i64 (tp.wrap (tp.wrap (64*n0)+t1))],[],.p (.sc (.bool rn)),[]⟩
 (.test (rn)
 (.call ⟨153,[sI .i64 (tp.wrap (tp.wrap (64*n0)+t1))],[],.p (.ps k 1 os),[]⟩
 (.out (.ret (.aD [sI .i64 (tp.wrap (tp.wrap (64*n0)+t1)),sI .i64 2,.p (.sc (.bool ((↑k:Int)==2)))]) [])))
 (.out (.ret (.aD [sI .i64 (tp.wrap (tp.wrap (64*n0)+t1)),sI .i64 2,sB false]) []))))))))):=by kernel_rfl
theorem Pm (n:Nat) (cs:List PV) (i:Nat) (n0 t1 t2 t3:Int) (b1:Bool) (b2:Bool) (b3:Bool) (rn:Bool) (k:Nat) (os:List PV):aE aeB env (aJ aB av [] [(127,0,3),(127,12,6)] [(127,2,2),(127,2,3)]) 1000000 127 ([AV.p (PV.ps n 1 cs),sI tp (↑i:Int)]) ([]) (.ans 150 (.aD [sI .i64 n0,sI .i64 2,sB true]) ([]) (.ans 151 ((nK t1 b1)) ([]) (.fork .fin (.ans 151 ((nK t2 b2)) ([]) (.fork .fin (.ans 152 (.p (.sc (.bool rn))) ([]) (.fork (.ans 153 (.p (.ps k 1 os)) ([]) .fin) .fin))))))) =
(.must ((bA i n))
 (.must ((oC cs i))
 (.call ⟨150,[sI .u8 (au (aA cs (aF i*1)))],[],.aD [sI .i64 n0,sI .i64 2,sB true],[]⟩
 (.call ⟨151,[.p (.ps n 1 cs),sI .i64 (tp.wrap ((↑i:Int)+1))],[],(nK t1 b1),[]⟩
 (.test (!b1)
 (.out (.ret (.aD [sI .i64 0,sI .i64 0,sB false]) []))
 (.call ⟨151,[.p (.ps n 1 cs),sI .i64 (tp.wrap ((↑i:Int)+2))],[],(nK t2 b2),[]⟩
 (.test (!b2)
 (.out (.ret (.aD [sI .i64 0,sI .i64 0,sB false]) []))
 (.call ⟨152,[sI .i64 (tp.wrap (tp.wrap (64*tp.wrap (tp.wrap (64*n0)+t1))+t2))],[],.p (.sc (.bool rn)),[]⟩
 (.test (rn)
 (.call ⟨153,[sI .i64 (tp.wrap (tp.wrap (64*tp.wrap (tp.wrap (64*n0)+t1))+t2))],[],.p (.ps k 1 os),[]⟩
 (.out (.ret (.aD [sI .i64 (tp.wrap (tp.wrap (64*tp.wrap (tp.wrap (64*n0)+t1))+t2)),sI .i64 3,.p (.sc (.bool ((↑k:Int)==3)))]) [])))
 (.out (.ret (.aD [sI .i64 (tp.wrap (tp.wrap (64*tp.wrap (tp.wrap (64*n0)+t1))+t2)),sI .i64 3,sB false]) []))))))))))):=by kernel_rfl
abbrev Lz (x0:Int) (x1:Int) (x2:Int) (x3:Int):List AV:=[sI .i64 (tp.wrap (tp.wrap (64*tp.wrap (tp.wrap (64*tp.wrap (tp.wrap (64*x0)+x1))+x2))+x3))]
def YN:oP:=aJ aB av [] [(127,0,3),(127,12,6)] [(127,2,2),(127,2,3)]
def acr (n:Nat) (cs:List PV) (i:Nat) (n0 t1 t2 t3:Int) (b1:Bool) (b2:Bool) (b3:Bool) (rn:Bool) (k:Nat) (os:List PV):Sc:=(.ans 150 (.aD [sI .i64 n0,sI .i64 3,sB true]) ([]) (.ans 151 ((nK t1 b1)) ([]) (.fork .fin (.ans 151 ((nK t2 b2)) ([]) (.fork .fin (.ans 151 ((nK t3 b3)) ([]) (.fork .fin (.ans 152 (.p (.sc (.bool rn))) ([]) (.fork (.ans 153 (.p (.ps k 1 os)) ([]) .fin) .fin)))))))))
def qz:aG:=
 (.out (.ret (.aD [sI .i64 0,sI .i64 0,sB false]) []))
def Jp (n:Nat) (cs:List PV) (i:Nat) (n0 t1 t2 t3:Int) (b1:Bool) (b2:Bool) (b3:Bool) (rn:Bool) (k:Nat) (os:List PV):aG:=
 (.must ((bA i n))
 (.must ((oC cs i))
 (.call ⟨150,[sI .u8 (au (aA cs (aF i*1)))],[],.aD [sI .i64 n0,sI .i64 3,sB true],[]⟩
 (.call ⟨151,[.p (.ps n 1 cs),sI .i64 (tp.wrap ((↑i:Int)+1))],[],(nK t1 b1),[]⟩
 (.test (!b1)
 (qz)
 (.call ⟨151,[.p (.ps n 1 cs),sI .i64 (tp.wrap ((↑i:Int)+2))],[],(nK t2 b2),[]⟩
 (.test (!b2)
 (qz)
 (.call ⟨151,[.p (.ps n 1 cs),sI .i64 (tp.wrap ((↑i:Int)+3))],[],(nK t3 b3),[]⟩
 (.test (!b3)
 (qz)
 (.call ⟨152,(Lz n0 t1 t2 t3),[],.p (.sc (.bool rn)),[]⟩
 (.test (rn)
 (.call ⟨153,(Lz n0 t1 t2 t3),[],.p (.ps k 1 os),[]⟩
 (.out (.ret (.aD [sI .i64 (tp.wrap (tp.wrap (64*tp.wrap (tp.wrap (64*tp.wrap (tp.wrap (64*n0)+t1))+t2))+t3)),sI .i64 4,.p (.sc (.bool ((↑k:Int)==4)))]) [])))
 (.out (.ret (.aD [sI .i64 (tp.wrap (tp.wrap (64*tp.wrap (tp.wrap (64*tp.wrap (tp.wrap (64*n0)+t1))+t2))+t3)),sI .i64 4,sB false]) [])))))))))))))
theorem Pn (n:Nat) (cs:List PV) (i:Nat) (n0 t1 t2 t3:Int) (b1:Bool) (b2:Bool) (b3:Bool) (rn:Bool) (k:Nat) (os:List PV):aE aeB env YN 1000000 127 ([AV.p (PV.ps n 1 cs),sI tp (↑i:Int)]) ([]) (acr n cs i n0 t1 t2 t3 b1 b2 b3 rn k os)=Jp n cs i n0 t1 t2 t3 b1 b2 b3 rn k os:=by kernel_rfl
theorem Po (n:Nat) (cs:List PV) (i:Nat) (n0 t1 t2 t3:Int) (b1:Bool) (b2:Bool) (b3:Bool) (rn:Bool) (k:Nat) (os:List PV):aE aeB env (aJ aB av [] [] [(127,2,2),(127,2,3)]) 1000000 127 ([AV.p (PV.ps n 1 cs),sI tp (↑i:Int)]) ([]) (.ans 150 (.aD [sI .i64 n0,sI .i64 0,sB false]) ([]) .fin) =
(.must ((bA i n))
 (.must ((oC cs i))
 (.call ⟨150,[sI .u8 (au (aA cs (aF i*1)))],[],.aD [sI .i64 n0,sI .i64 0,sB false],[]⟩
 (.out (.ret (.aD [sI .i64 0,sI .i64 0,sB false]) []))))):=by kernel_rfl
theorem VQ (n:Nat) (cs:List PV):aE aeB env (aJ aB av [(114,0)] [] []) 1000000 114 ([AV.p (PV.ps n 1 cs)]) ([]) (.fin) =
(.at (ah aeB env 114 0 [.p (.ps n 1 cs),.mp 0 0,bP,sI .i64 0] ([.pc [sP 0,sP 0]]) 0 33)):=by kernel_rfl
theorem tF (n:Nat) (cs:List PV) (i:Nat) (k:Nat) (a:List PV) (v z:Int) (ok:Bool):grow aeB env (aJ aB av [(114,0)] [(114,0,1),(114,0,2)] []) 1000000 true (ah aeB env 114 0 ([AV.p (PV.ps n 1 cs),AV.mp 0 0,AV.os aeE 0 0 [],sI tp (↑i:Int)]) ([bf.pc [PV.sc (vd tp 0),PV.sc (vd tp 0)]]) 0 33) (.fork (.ans 127 ((gK v z ok)) ([]) .fin) .fin) atEnd =
(.test ((bh i n))
 (.call ⟨127,[.p (.ps n 1 cs),sI .i64 (↑i:Int)],[],(gK v z ok),[]⟩
 (.test (!ok)
 (.out (.ret (.aD [bP,.agg [sI .i64 4,sI .i64 (↑i:Int)]]) []))
 (.at (ah aeB env 114 0 [.p (.ps n 1 cs),.mp 0 0,.os (some 1) 1 1 [sP v],sI .i64 (tp.wrap ((↑i:Int)+z))] ([.pc [sP 0,sP 0],.tok]) 0 33))))
 (.out (.ret (.aD [bP,.agg [sI .i64 0,sI .i64 0]]) []))):=by kernel_rfl
theorem tG (n:Nat) (cs:List PV) (i:Nat) (k:Nat) (a:List PV) (v z:Int) (ok:Bool):grow aeB env (aJ aB av [(114,0)] [(114,0,1),(114,0,2)] [(114,8,3)]) 1000000 true (ah aeB env 114 0 ([AV.p (PV.ps n 1 cs),AV.mp 0 0,AV.os (aeF 1) k 1 a,sI tp (↑i:Int)]) ([bf.pc [PV.sc (vd tp 0),PV.sc (vd tp 0)],bf.tok]) 0 33) (.fork (.ans 127 ((gK v z ok)) ([]) .fin) .fin) atEnd =
(.test ((bh i n))
 (.call ⟨127,[.p (.ps n 1 cs),sI .i64 (↑i:Int)],[],(gK v z ok),[]⟩
 (.test (!ok)
 (.out (.ret (.aD [bP,.agg [sI .i64 4,sI .i64 (↑i:Int)]]) []))
 (.must (((k+1)*8).ble eY&&(k+1).ble eY&&true)
 (.at (ah aeB env 114 0 [.p (.ps n 1 cs),.mp 0 0,.os (some 1) (k+1) 1 (a++[sP v]),sI .i64 (tp.wrap ((↑i:Int)+z))] ([.pc [sP 0,sP 0],.tok]) 0 33)))))
 (.out (.ret (.aD [.os (some 0) k 1 a,.agg [sI .i64 0,sI .i64 0]]) [.tok]))):=by kernel_rfl
theorem VS (n:Nat) (cs:List PV) (k:Nat) (l:List PV) (e p:Int):aE aeB env (aJ aB av [] [(77,0,0)] []) 1000000 77 ([AV.p (PV.ps n 1 cs)]) ([]) (.ans 114 (.aD [.az,.agg [sI .i64 e,sI .i64 p]]) ([]) .fin) =
(.call ⟨114,[.p (.ps n 1 cs)],[],.aD [.az,.agg [sI .i64 e,sI .i64 p]],[]⟩
 (.test (e != 0)
 (.out (.ret (sI .i64 p) []))
 (.out (.ret (sI .i64 (-1)) [])))):=by kernel_rfl
section
variable (s:ByteArray)
abbrev Cm:List PV:=s.data.toList.map jx
theorem MP {j:Nat} (h:j<s.data.toList.length):(Cm s).getD (j*1) .aU = .sc (.int .u8 (cY s j:Nat)):=by
 rw[aez,de,en,df h,cY,de,df h]
 rfl
def mq (c:Nat):Int×Int×Bool:=if c<128 then(c,0,true) else if 192≤c∧c<224 then(c-192,1,true) else if 224≤c∧c<240 then(c-224,2,true) else if 240≤c∧c<248 then(c-240,3,true) else(0,0,false)
theorem Jq (c:Nat) (h:c<256):an aeB env 150 [sI .u8 c] [] (.aD [sI .i64 (mq c).1,sI .i64 (mq c).2.1,sB (mq c).2.2]) []:=by
 have w0:tp.wrap (c:Int)=c:=aZ (by omega) (by omega)
 have w1:tp.wrap ((c:Int)-192)=c-192:=aZ (by omega) (by omega)
 have w2:tp.wrap ((c:Int)-224)=c-224:=aZ (by omega) (by omega)
 have w3:tp.wrap ((c:Int)-240)=c-240:=aZ (by omega) (by omega)
 refine aa aI (VL c) ?_
 simp only[aG.ok,w0,w1,w2,w3,decide_eq_true_eq,decide_eq_false_iff_not,ka]
 refine⟨fun q=> ?_,fun q=>⟨fun r=>⟨fun t=> ?_,fun t=>⟨by omega,fun u=> ?_,fun u=>⟨by omega,fun v=> ?_,fun v=> ?_⟩⟩⟩,fun r=>⟨by omega,by omega,?_⟩⟩⟩<;>unfold mq
 · rw[if_pos (by omega)]
 · rw[if_neg (by omega),if_pos (by omega)]
 · rw[if_neg (by omega),if_neg (by omega),if_pos (by omega)]
 · rw[if_neg (by omega),if_neg (by omega),if_neg (by omega),if_pos (by omega)]
 · rw[if_neg (by omega),if_neg (by omega),if_neg (by omega),if_neg (by omega)]
 · rw[if_neg (by omega),if_neg (by omega),if_neg (by omega),if_neg (by omega)]
def goes (j:Nat):Bool:=decide (j<s.data.toList.length)&&(decide (128≤cY s j)&&decide (cY s j<192))
def part (j:Nat):Int:=if goes s j=true then(cY s j:Int)-128 else 0
theorem uY (j:Nat):an aeB env 151 [.p (.ps s.data.toList.length 1 (Cm s)),sI .i64 j] [] (.aD [sI .i64 (part s j),sB (goes s j)]) []:=by
 refine aa aI (VM s.data.toList.length (Cm s) j) ?_
 by_cases h:j<s.data.toList.length
 · have hb:=lZ s j
   have hd:decide ((j:Int)≥(s.data.toList.length:Int))=false:=decide_eq_false (by omega)
   have hin:=kg (i:=j) (n:=s.data.toList.length) (by omega)
   have w0:tp.wrap (cY s j:Int)=cY s j:=aZ (by omega) (by omega)
   have w1:tp.wrap ((cY s j:Int)-128)=cY s j-128:=aZ (by omega) (by omega)
   have hc:=MP s h
   simp only[br,aG.ok,aeL,hc,hd,hin,isInt,au,w0,w1,aeN,decide_eq_true_eq,decide_eq_false_iff_not]
   refine⟨nofun,fun _=>⟨trivial,rfl,fun q=> ?_,fun q=>⟨trivial,rfl,fun r=> ?_,fun r=>⟨trivial,rfl,?_⟩⟩⟩⟩
   · have e:goes s j=false:=by simp only[goes,ahe,decide_eq_false_iff_not];omega
     rw[part,e];rfl
   · have e:goes s j=false:=by simp only[goes,ahe,decide_eq_false_iff_not];omega
     rw[part,e];rfl
   · have e:goes s j=true:=by simp only[goes,jn,decide_eq_true_eq];omega
     rw[part,e];rfl
 · have hd:decide ((j:Int)≥(s.data.toList.length:Int))=true:=decide_eq_true (by omega)
   have e:goes s j=false:=by simp only[goes,ahe,decide_eq_false_iff_not];omega
   simp only[br,aG.ok,hd,part,e]
   exact⟨fun _=>rfl,fun q=>by cases q⟩
def mB (n:Int):Bool:=decide (0≤n)&&(decide (n≤1114111)&&(decide (n<55296)||decide (n>57343)))
theorem qA (n:Int):an aeB env 152 [sI .i64 n] [] (sB (mB n)) []:=by
 refine aa aI (VN n) ?_
 simp only[br,aG.ok,mB,ge_iff_le]
 refine⟨fun q=>⟨fun r=>⟨fun t=> ?_,fun t=> ?_⟩,fun r=> ?_⟩,fun q=> ?_⟩
 · rw[q,r,t];rfl
 · rw[q,r,t];rfl
 · rw[q,r];rfl
 · rw[q];rfl
def sL (n:Int):Nat:=if n<128 then 1 else if n<2048 then 2 else if n<65536 then 3 else 4
theorem YO {f:FuncId} {args:List AV} {k z:Nat} {l:List PV} (h:an aeB env f args [] (.os none k z l) []):an aeB env f args [] (.p (.ps k z l)) []:=an.pure h
theorem tH (n:Int) : ∃l,an aeB env 153 [sI .i64 n] [] (.p (.ps (sL n) 1 l)) []:=by
 have t:=VO n
 unfold sL
 by_cases h1:n<128
 · rw[if_pos h1]
   exact⟨_,YO (aa aI t ⟨fun _=>rfl,fun q=>absurd h1 (by simpa using q)⟩)⟩
 · rw[if_neg h1]
   by_cases h2:n<2048
   · rw[if_pos h2]
     exact⟨_,YO (aa aI t ⟨fun q=>absurd (by simpa using q) h1,fun _=>⟨fun _=>rfl,fun q=>absurd h2 (by simpa using q)⟩⟩)⟩
   · rw[if_neg h2]
     by_cases h3:n<65536
     · rw[if_pos h3]
       exact⟨_,YO (aa aI t ⟨fun q=>absurd (by simpa using q) h1,fun _=>⟨fun q=>absurd (by simpa using q) h2,fun _=>⟨fun _=>rfl,fun q=>absurd h3 (by simpa using q)⟩⟩⟩)⟩
     · rw[if_neg h3]
       exact⟨_,YO (aa aI t ⟨fun q=>absurd (by simpa using q) h1,fun _=>⟨fun q=>absurd (by simpa using q) h2,fun _=>⟨fun q=>absurd (by simpa using q) h3,fun _=>rfl⟩⟩⟩)⟩
def LA (j:Nat):Int×Int×Bool:=
 let f:=mq (cY s j)
 if f.2.2=false then(0,0,false)
 else if f.2.1=0 then(f.1,1,mB f.1&&((sL f.1:Int)==1))
 else if goes s (j+1)=false then(0,0,false)
 else if f.2.1=1 then(64*f.1+part s (j+1),2,mB (64*f.1+part s (j+1))&&((sL (64*f.1+part s (j+1)):Int)==2))
 else if goes s (j+2)=false then(0,0,false)
 else if f.2.1=2 then(64*(64*f.1+part s (j+1))+part s (j+2),3,mB (64*(64*f.1+part s (j+1))+part s (j+2))&&((sL (64*(64*f.1+part s (j+1))+part s (j+2)):Int)==3))
 else if goes s (j+3)=false then(0,0,false)
 else(64*(64*(64*f.1+part s (j+1))+part s (j+2))+part s (j+3),4,mB (64*(64*(64*f.1+part s (j+1))+part s (j+2))+part s (j+3))&&((sL (64*(64*(64*f.1+part s (j+1))+part s (j+2))+part s (j+3)):Int)==4))
theorem uZ (j:Nat):0≤part s j∧part s j≤63:=by
 unfold part
 split
 · rename_i h
   simp only[goes,jn,decide_eq_true_eq] at h
   omega
 · omega
theorem YP {j:Nat} (hj:j<s.data.toList.length) (hs:s.data.toList.length≤1000000):an aeB env 127 [.p (.ps s.data.toList.length 1 (Cm s)),sI .i64 j] [] (.aD [sI .i64 (LA s j).1,sI .i64 (LA s j).2.1,sB (LA s j).2.2]) []:=by
 have hb:=lZ s j
 have hin:=kg (i:=j) (n:=s.data.toList.length) (by omega)
 have hc:=MP s hj
 have hf:=Jq (cY s j) hb
 have e1:=fk j (by omega)
 have e2:tp.wrap ((j:Int)+2)=((j+2:Nat):Int):=by rw[aZ (by omega) (by omega)];rfl
 have e3:tp.wrap ((j:Int)+3)=((j+3:Nat):Int):=by rw[aZ (by omega) (by omega)];rfl
 have t1:=uY s (j+1)
 have t2:=uY s (j+2)
 have t3:=uY s (j+3)
 have p1:=uZ s (j+1)
 have p2:=uZ s (j+2)
 have p3:=uZ s (j+3)
 have hfr:((mq (cY s j)).2.2=false∧mq (cY s j)=(0,0,false))∨(0≤(mq (cY s j)).1∧(mq (cY s j)).1≤255∧(mq (cY s j)).2.2=true∧((mq (cY s j)).2.1=0∨(mq (cY s j)).2.1=1∨(mq (cY s j)).2.1=2∨(mq (cY s j)).2.1=3)):=by
  unfold mq
  split
  · exact .inr ⟨by simp,by simp;omega,rfl,.inl rfl⟩
  split
  · exact .inr ⟨by simp;omega,by simp;omega,rfl,.inr (.inl rfl)⟩
  split
  · exact .inr ⟨by simp;omega,by simp;omega,rfl,.inr (.inr (.inl rfl))⟩
  split
  · exact .inr ⟨by simp;omega,by simp;omega,rfl,.inr (.inr (.inr rfl))⟩
  · exact .inl ⟨rfl,rfl⟩
 unfold LA
 generalize hF:mq (cY s j)=F at hf hfr
 obtain⟨n0,m,ok⟩:=F
 generalize part s (j+1)=x1 at *
 generalize part s (j+2)=x2 at *
 generalize part s (j+3)=x3 at *
 generalize goes s (j+1)=g1 at *
 generalize goes s (j+2)=g2 at *
 generalize goes s (j+3)=g3 at *
 dsimp only at hf hfr ⊢
 rcases hfr with⟨rfl,he⟩|⟨h0,ajw,rfl,rfl|rfl|rfl|rfl⟩
 · cases he
   refine aa aI (Po s.data.toList.length (Cm s) j 0 0 0 0 true true true true 0 []) ?_
   simp only[bA,oC,br,aG.ok,aeL,hc,hin,isInt,au,aeN]
   exact⟨trivial,rfl,hf,rfl⟩
 · obtain⟨l,ho⟩:=tH n0
   refine aa aI (Pj s.data.toList.length (Cm s) j n0 0 0 0 true true true (mB n0) (sL n0) l) ?_
   simp only[bA,oC,br,aG.ok,aeL,hc,hin,isInt,au,aeN]
   refine⟨trivial,rfl,hf,qA n0,fun q=>⟨ho,?_⟩,fun q=> ?_⟩
   · rw[q];rfl
   · rw[q];rfl
 · have w1:tp.wrap (tp.wrap (64*n0)+x1)=64*n0+x1:=by rw[aZ (n:=64*n0) (by omega) (by omega)];exact aZ (by omega) (by omega)
   obtain⟨l,ho⟩:=tH (64*n0+x1)
   refine aa aI (Pk s.data.toList.length (Cm s) j n0 x1 0 0 g1 true true (mB (64*n0+x1)) (sL (64*n0+x1)) l) ?_
   simp only[bA,nK,oC,br,aG.ok,aeL,hc,hin,isInt,au,aeN,w1,e1]
   refine⟨trivial,rfl,hf,t1,fun q=> ?_,fun q=>⟨qA _,fun r=>⟨ho,?_⟩,fun r=> ?_⟩⟩
   · rw[ka] at q;rw[q];rfl
   · rw[afe] at q;rw[q,r];rfl
   · rw[afe] at q;rw[q,r];rfl
 · have w1:tp.wrap (tp.wrap (64*n0)+x1)=64*n0+x1:=by rw[aZ (n:=64*n0) (by omega) (by omega)];exact aZ (by omega) (by omega)
   have w2:tp.wrap (tp.wrap (64*(64*n0+x1))+x2)=64*(64*n0+x1)+x2:=by rw[aZ (n:=64*(64*n0+x1)) (by omega) (by omega)];exact aZ (by omega) (by omega)
   obtain⟨l,ho⟩:=tH (64*(64*n0+x1)+x2)
   refine aa aI (Pm s.data.toList.length (Cm s) j n0 x1 x2 0 g1 g2 true (mB (64*(64*n0+x1)+x2)) (sL (64*(64*n0+x1)+x2)) l) ?_
   simp only[bA,nK,oC,br,aG.ok,aeL,hc,hin,isInt,au,aeN,w1,w2,e1,e2]
   refine⟨trivial,rfl,hf,t1,fun q=> ?_,fun q=>⟨t2,fun q2=> ?_,fun q2=>⟨qA _,fun r=>⟨ho,?_⟩,fun r=> ?_⟩⟩⟩
   · rw[ka] at q;rw[q];rfl
   · rw[afe] at q;rw[ka] at q2;rw[q,q2];rfl
   · rw[afe] at q q2;rw[q,q2,r];rfl
   · rw[afe] at q q2;rw[q,q2,r];rfl
 · have w1:tp.wrap (tp.wrap (64*n0)+x1)=64*n0+x1:=by rw[aZ (n:=64*n0) (by omega) (by omega)];exact aZ (by omega) (by omega)
   have w2:tp.wrap (tp.wrap (64*(64*n0+x1))+x2)=64*(64*n0+x1)+x2:=by rw[aZ (n:=64*(64*n0+x1)) (by omega) (by omega)];exact aZ (by omega) (by omega)
   have w3:tp.wrap (tp.wrap (64*(64*(64*n0+x1)+x2))+x3)=64*(64*(64*n0+x1)+x2)+x3:=by rw[aZ (n:=64*(64*(64*n0+x1)+x2)) (by omega) (by omega)];exact aZ (by omega) (by omega)
   obtain⟨l,ho⟩:=tH (64*(64*(64*n0+x1)+x2)+x3)
   refine aa aI (Pn s.data.toList.length (Cm s) j n0 x1 x2 x3 g1 g2 g3 (mB (64*(64*(64*n0+x1)+x2)+x3)) (sL (64*(64*(64*n0+x1)+x2)+x3)) l) ?_
   simp only[Jp,bA,nK,Lz,oC,qz,br,aG.ok,aeL,hc,hin,isInt,au,aeN,w1,w2,w3,e1,e2,e3]
   refine⟨trivial,rfl,hf,t1,fun q=> ?_,fun q=>⟨t2,fun q2=> ?_,fun q2=>⟨t3,fun q3=> ?_,fun q3=>⟨qA _,fun r=>⟨ho,?_⟩,fun r=> ?_⟩⟩⟩⟩
   · rw[ka] at q;rw[q];rfl
   · rw[afe] at q;rw[ka] at q2;rw[q,q2];rfl
   · rw[afe] at q q2;rw[ka] at q3;rw[q,q2,q3];rfl
   · rw[afe] at q q2 q3;rw[q,q2,q3,r];rfl
   · rw[afe] at q q2 q3;rw[q,q2,q3,r];rfl
theorem rl1 (v:Int) (h:0≤v∧v<128):(mB v&&((sL v:Int)==1))=true:=by
 have e:sL v=1:=if_pos h.2
 rw[e]
 simp only[mB,jn,j1,decide_eq_true_eq,beq_iff_eq]
 omega
theorem VT (v:Int) (h:0≤v):(mB v&&((sL v:Int)==2))=decide (128≤v∧v<2048)∧(mB v&&((sL v:Int)==3))=decide (2048≤v∧v<65536∧(v<55296∨v>57343))∧(mB v&&((sL v:Int)==4))=decide (65536≤v∧v≤1114111):=by
 have e:(sL v:Int)=if v<128 then 1 else if v<2048 then 2 else if v<65536 then 3 else 4:=by
  unfold sL
  split
  · rfl
  split
  · rfl
  split<;>rfl
 rw[e]
 refine⟨?_,?_,?_⟩<;>rw[aeM]<;>simp only[mB,jn,j1,decide_eq_true_eq,beq_iff_eq]<;>repeat' split
 all_goals omega
theorem YQ {j:Nat} (hj:j<s.data.toList.length):((LA s j).2.2=true∧(LA s j).2.1=(afp s j).2 ∧ ¬((afp s j).1=65533∧(afp s j).2=1))∨((LA s j).2.2=false∧(afp s j).1=65533∧(afp s j).2=1):=by
 have g : ∀k,(s.get! k).toNat=cY s k:=fun k=>by rw[H6]
 have hsz:s.size=s.data.toList.length:=ie.symm
 have b0:=lZ s j
 have b1:=lZ s (j+1)
 have b2:=lZ s (j+2)
 have b3:=lZ s (j+3)
 rw[afG,g,g,g,g,hsz]
 have e1:goes s (j+1)=decide (1<s.data.toList.length-j∧cY s (j+1) / 64=2):=by rw[goes,aeM];simp only[jn,decide_eq_true_eq];omega
 have e2:goes s (j+2)=decide (2<s.data.toList.length-j∧cY s (j+2) / 64=2):=by rw[goes,aeM];simp only[jn,decide_eq_true_eq];omega
 have e3:goes s (j+3)=decide (3<s.data.toList.length-j∧cY s (j+3) / 64=2):=by rw[goes,aeM];simp only[jn,decide_eq_true_eq];omega
 unfold LA part
 rw[e1,e2,e3]
 have hn:1≤s.data.toList.length-j:=by omega
 generalize s.data.toList.length-j=n at *
 generalize cY s j=c0 at *
 generalize cY s (j+1)=c1 at *
 generalize cY s (j+2)=c2 at *
 generalize cY s (j+3)=c3 at *
 clear e1 e2 e3 g hsz hj
 by_cases k0:c0<128
 · have f:mq c0=((c0:Int),0,true):=if_pos k0
   have dd:afC n c0 c1 c2 c3=(c0,1):=by unfold afC;rw[if_pos k0]
   rw[f,dd]
   refine .inl ⟨?_,rfl,by simp only;omega⟩
   exact rl1 _ (by omega)
 by_cases k1:192≤c0∧c0<224
 · have f:mq c0=((c0:Int)-192,1,true):=by unfold mq;rw[if_neg k0,if_pos k1]
   rw[f]
   by_cases g1:1<n∧c1 / 64=2
   · have dd:afC n c0 c1 c2 c3=if c0%32*64+c1%64≥128 then(c0%32*64+c1%64,2) else(65533,1):=by unfold afC;rw[if_neg k0,if_pos ⟨by omega,g1⟩]
     rw[dd]
     have r:=(VT (64*((c0:Int)-192)+((c1:Int)-128)) (by omega)).1
     simp only[decide_eq_true g1,if_true,ag1,if_false,ahb,r,decide_eq_true_eq,decide_eq_false_iff_not]
     split
     · exact .inl ⟨by omega,(by first|rfl|trivial),by simp⟩
     · exact .inr ⟨by omega,(by first|rfl|trivial),(by first|rfl|trivial)⟩
   · have dd:afC n c0 c1 c2 c3=(65533,1):=by unfold afC;rw[if_neg k0,if_neg (fun h=>g1 h.2),if_neg (by omega),if_neg (by omega)]
     rw[dd]
     simp only[decide_eq_false g1,if_true,ag1,if_false,ahb]
     exact .inr ⟨(by first|rfl|trivial),(by first|rfl|trivial),(by first|rfl|trivial)⟩
 by_cases k2:224≤c0∧c0<240
 · have f:mq c0=((c0:Int)-224,2,true):=by unfold mq;rw[if_neg k0,if_neg k1,if_pos k2]
   rw[f]
   by_cases g1:1<n∧c1 / 64=2
   · by_cases g2:2<n∧c2 / 64=2
     · have dd:afC n c0 c1 c2 c3=if c0%16*4096+c1%64*64+c2%64≥2048∧(c0%16*4096+c1%64*64+c2%64<55296∨(57344≤c0%16*4096+c1%64*64+c2%64∧c0%16*4096+c1%64*64+c2%64≤1114111)) then(c0%16*4096+c1%64*64+c2%64,3) else(65533,1):=by unfold afC;rw[if_neg k0,if_neg (by omega),if_pos ⟨by omega,g1,g2⟩]
       rw[dd]
       have r:=(VT (64*(64*((c0:Int)-224)+((c1:Int)-128))+((c2:Int)-128)) (by omega)).2.1
       simp only[decide_eq_true g1,decide_eq_true g2,if_true,ag1,if_false,show(2:Int)≠0 by decide,show(2:Int)≠1 by decide,r,decide_eq_true_eq,decide_eq_false_iff_not]
       split
       · exact .inl ⟨by omega,(by first|rfl|trivial),by simp⟩
       · exact .inr ⟨by omega,(by first|rfl|trivial),(by first|rfl|trivial)⟩
     · have dd:afC n c0 c1 c2 c3=(65533,1):=by unfold afC;rw[if_neg k0,if_neg (by omega),if_neg (fun h=>g2 h.2.2),if_neg (by omega)]
       rw[dd]
       simp only[decide_eq_true g1,decide_eq_false g2,if_true,ag1,if_false,show(2:Int)≠0 by decide,show(2:Int)≠1 by decide]
       exact .inr ⟨(by first|rfl|trivial),(by first|rfl|trivial),(by first|rfl|trivial)⟩
   · have dd:afC n c0 c1 c2 c3=(65533,1):=by unfold afC;rw[if_neg k0,if_neg (by omega),if_neg (fun h=>g1 h.2.1),if_neg (by omega)]
     rw[dd]
     simp only[decide_eq_false g1,if_true,ag1,if_false,show(2:Int)≠0 by decide]
     exact .inr ⟨(by first|rfl|trivial),(by first|rfl|trivial),(by first|rfl|trivial)⟩
 by_cases k3:240≤c0∧c0<248
 · have f:mq c0=((c0:Int)-240,3,true):=by unfold mq;rw[if_neg k0,if_neg k1,if_neg k2,if_pos k3]
   rw[f]
   by_cases g1:1<n∧c1 / 64=2
   · by_cases g2:2<n∧c2 / 64=2
     · by_cases g3:3<n∧c3 / 64=2
       · have dd:afC n c0 c1 c2 c3=if c0%8*262144+c1%64*4096+c2%64*64+c3%64≥65536∧(c0%8*262144+c1%64*4096+c2%64*64+c3%64<55296∨(57344≤c0%8*262144+c1%64*4096+c2%64*64+c3%64∧c0%8*262144+c1%64*4096+c2%64*64+c3%64≤1114111)) then(c0%8*262144+c1%64*4096+c2%64*64+c3%64,4) else(65533,1):=by unfold afC;rw[if_neg k0,if_neg (by omega),if_neg (by omega),if_pos ⟨by omega,g1,g2,g3⟩]
         rw[dd]
         have r:=(VT (64*(64*(64*((c0:Int)-240)+((c1:Int)-128))+((c2:Int)-128))+((c3:Int)-128)) (by omega)).2.2
         simp only[decide_eq_true g1,decide_eq_true g2,decide_eq_true g3,if_true,ag1,if_false,show(3:Int)≠0 by decide,show(3:Int)≠1 by decide,show(3:Int)≠2 by decide,r,decide_eq_true_eq,decide_eq_false_iff_not]
         split
         · exact .inl ⟨by omega,(by first|rfl|trivial),by simp⟩
         · exact .inr ⟨by omega,(by first|rfl|trivial),(by first|rfl|trivial)⟩
       · have dd:afC n c0 c1 c2 c3=(65533,1):=by unfold afC;rw[if_neg k0,if_neg (by omega),if_neg (by omega),if_neg (fun h=>g3 h.2.2.2)]
         rw[dd]
         simp only[decide_eq_true g1,decide_eq_true g2,decide_eq_false g3,if_true,ag1,if_false,show(3:Int)≠0 by decide,show(3:Int)≠1 by decide,show(3:Int)≠2 by decide]
         exact .inr ⟨(by first|rfl|trivial),(by first|rfl|trivial),(by first|rfl|trivial)⟩
     · have dd:afC n c0 c1 c2 c3=(65533,1):=by unfold afC;rw[if_neg k0,if_neg (by omega),if_neg (by omega),if_neg (fun h=>g2 h.2.2.1)]
       rw[dd]
       simp only[decide_eq_true g1,decide_eq_false g2,if_true,ag1,if_false,show(3:Int)≠0 by decide,show(3:Int)≠1 by decide]
       exact .inr ⟨(by first|rfl|trivial),(by first|rfl|trivial),(by first|rfl|trivial)⟩
   · have dd:afC n c0 c1 c2 c3=(65533,1):=by unfold afC;rw[if_neg k0,if_neg (by omega),if_neg (by omega),if_neg (fun h=>g1 h.2.1)]
     rw[dd]
     simp only[decide_eq_false g1,if_true,ag1,if_false,show(3:Int)≠0 by decide]
     exact .inr ⟨(by first|rfl|trivial),(by first|rfl|trivial),(by first|rfl|trivial)⟩
 · have f:mq c0=(0,0,false):=by unfold mq;rw[if_neg k0,if_neg k1,if_neg k2,if_neg k3]
   have dd:afC n c0 c1 c2 c3=(65533,1):=by unfold afC;rw[if_neg k0,if_neg (by omega),if_neg (by omega),if_neg (by omega)]
   rw[f,dd]
   simp only[if_true]
   exact .inr ⟨trivial,trivial,trivial⟩
def Pp (a:List PV) (i:Nat):cw:=
 if a=[] then ah aeB env 114 0 [.p (.ps s.data.toList.length 1 (Cm s)),.mp 0 0,.os none 0 0 [],sI .i64 i] [.pc [sP 0,sP 0]] 0 33
 else ah aeB env 114 0 [.p (.ps s.data.toList.length 1 (Cm s)),.mp 0 0,.os (some 1) a.length 1 a,sI .i64 i] [.pc [sP 0,sP 0],.tok] 0 33
abbrev YR (b:Int):AV:= .agg [sI .i64 (if b≥0 then 4 else 0),sI .i64 (if b≥0 then b else 0)]
theorem Pq (hs:s.data.toList.length≤1000000) : ∀(k i:Nat) (a:List PV),s.size+1≤i+k→a.length≤i → ∃v m',bp aeB env (Pp s a i) (.ret (.aD [v,YR (BR s k i)]) m'):=by
 have hsz:s.size=s.data.toList.length:=ie.symm
 have hL:=F8
 intro k
 induction k with
 |zero=>
  intro i a hi ha
  have hd:decide ((i:Int)<(s.data.toList.length:Int))=false:=decide_eq_false (by omega)
  unfold Pp
  by_cases e:a=[]
  · rw[if_pos e]
    refine⟨_,_,af aI (tF s.data.toList.length (Cm s) i 0 [] 0 0 true) (o:= .ret (.aD [.os none 0 0 [],.agg [sI .i64 0,sI .i64 0]]) []) ?_⟩
    simp only[bh,gK,br,aG.ok,hd]
    exact⟨nofun,fun _=>trivial⟩
  · rw[if_neg e]
    refine⟨_,_,af aI (tG s.data.toList.length (Cm s) i a.length a 0 0 true) (o:= .ret (.aD [.os (some 0) a.length 1 a,.agg [sI .i64 0,sI .i64 0]]) [.tok]) ?_⟩
    simp only[bh,gK,br,aG.ok,hd]
    exact⟨nofun,fun _=>trivial⟩
 |succ k ih=>
  intro i a hi ha
  by_cases hlt:i<s.size
  · have hj:i<s.data.toList.length:=by omega
    have hd:=kj (i:=i) (n:=s.data.toList.length) (by omega)
    have hat:=YP s hj hs
    have hp:=Mv s i
    simp only[BR,if_pos hlt]
    rcases YQ s hj with⟨q1,q2,q3⟩|⟨q1,q2,q3⟩
    · rw[if_neg q3]
      rw[q1,q2] at hat
      have hz4:(afp s i).2≤4:=by
       rw[afG];unfold afC
       repeat' split
       all_goals simp
      have w:tp.wrap ((i:Int)+((afp s i).2:Nat))=((i+(afp s i).2:Nat):Int):=by rw[aZ (by omega) (by omega)];omega
      obtain⟨v,m',hn⟩:=ih (i+(afp s i).2) (a++[sP (LA s i).1]) (by omega) (by rw[du];simp;omega)
      refine⟨v,m',?_⟩
      unfold Pp at hn ⊢
      rw[if_neg (by simp)] at hn
      by_cases e:a=[]
      · subst e
        rw[if_pos rfl]
        refine af aI (tF s.data.toList.length (Cm s) i 0 [] (LA s i).1 ((afp s i).2:Nat) true) ?_
        simp only[bh,gK,br,aG.ok,hd,w]
        exact⟨fun _=>⟨hat,nofun,fun _=>hn⟩,fun q=>by cases q⟩
      · rw[if_neg e]
        rw[du] at hn
        refine af aI (tG s.data.toList.length (Cm s) i a.length a (LA s i).1 ((afp s i).2:Nat) true) ?_
        simp only[bh,gK,br,aG.ok,hd,w]
        exact⟨fun _=>⟨hat,nofun,fun _=>⟨by simp only[aeN,jn,aey];omega,hn⟩⟩,fun q=>by cases q⟩
    · rw[if_pos ⟨q2,q3⟩]
      rw[q1] at hat
      have f0:YR (i:Int) = .agg [sI .i64 4,sI .i64 i]:=by
       have h0:(i:Int)≥0:=by omega
       simp only[YR,if_pos h0]
      rw[f0]
      unfold Pp
      by_cases e:a=[]
      · subst e
        rw[if_pos rfl]
        refine⟨_,_,af aI (tF s.data.toList.length (Cm s) i 0 [] (LA s i).1 (LA s i).2.1 false) (o:= .ret (.aD [.os none 0 0 [],.agg [sI .i64 4,sI .i64 i]]) []) ?_⟩
        simp only[bh,gK,br,aG.ok,hd]
        exact⟨fun _=>⟨hat,fun _=>trivial,fun q=>by cases q⟩,fun q=>by cases q⟩
      · rw[if_neg e]
        refine⟨_,_,af aI (tG s.data.toList.length (Cm s) i a.length a (LA s i).1 (LA s i).2.1 false) (o:= .ret (.aD [.os none 0 0 [],.agg [sI .i64 4,sI .i64 i]]) []) ?_⟩
        simp only[bh,gK,br,aG.ok,hd]
        exact⟨fun _=>⟨hat,fun _=>trivial,fun q=>by cases q⟩,fun q=>by cases q⟩
  · have hd:decide ((i:Int)<(s.data.toList.length:Int))=false:=decide_eq_false (by omega)
    simp only[BR,if_neg hlt]
    unfold Pp
    by_cases e:a=[]
    · rw[if_pos e]
      refine⟨_,_,af aI (tF s.data.toList.length (Cm s) i 0 [] 0 0 true) (o:= .ret (.aD [.os none 0 0 [],.agg [sI .i64 0,sI .i64 0]]) []) ?_⟩
      simp only[bh,gK,br,aG.ok,hd]
      exact⟨nofun,fun _=>trivial⟩
    · rw[if_neg e]
      refine⟨_,_,af aI (tG s.data.toList.length (Cm s) i a.length a 0 0 true) (o:= .ret (.aD [.os (some 0) a.length 1 a,.agg [sI .i64 0,sI .i64 0]]) [.tok]) ?_⟩
      simp only[bh,gK,br,aG.ok,hd]
      exact⟨nofun,fun _=>trivial⟩
theorem VU {f:FuncId} {args:List AV} {v:AV} {m':Mem} {a b:Int} (h:an aeB env f args [] (.aD [v,.agg [sI .i64 a,sI .i64 b]]) m'):an aeB env f args [] (.aD [.az,.agg [sI .i64 a,sI .i64 b]]) []:=
 h.weak fun g wd cv q=>by
   cases q with
   |aD _ cs hl hc=>
    have hv:dz g wd [v,.agg [sI .i64 a,sI .i64 b]] cs.toList:=bN.dY hl hc
    refine VA.pP.2 ?_
    generalize cs.toList=vs at hv
    match vs,hv with
    |[u,t],hv=>
     obtain⟨_,h2,_⟩:=hv
     refine⟨.az _,?_,trivial⟩
     cases h2 with
     |agg _ ds hn hd=>
      have hw:dz g wd [sI .i64 a,sI .i64 b] ds.toList:=bN.dY hn hd
      refine VA.zL.2 ?_
      generalize ds.toList=us at hw
      match us,hw with
      |[x,y],hw=>
       obtain⟨w1,w2,_⟩:=hw
       cases w1 with
       |p _ _ w1=>cases w1 with
        |sc=>cases w2 with
         |p _ _ w2=>cases w2 with
          |sc=>exact⟨.p _ _ (.sc _),.p _ _ (.sc _),trivial⟩
theorem LB : ∀(k i:Nat),BR s k i≥0∨BR s k i = -1
 |0,_=> .inr rfl
 |k+1,i=>by
  simp only[BR]
  split
  · split
    · exact .inl (by omega)
    · exact LB k _
  · exact .inr rfl
theorem Pr (hs:s.data.toList.length≤1000000):an aeB env 77 [.p (.ps s.data.toList.length 1 (Cm s))] [] (sI .i64 (sk s)) []:=by
 obtain⟨v,m',h⟩:=Pq s hs (s.size+1) 0 [] (by omega) (aw _)
 have hr:an aeB env 114 [.p (.ps s.data.toList.length 1 (Cm s))] [] (.aD [v,YR (sk s)]) m':=by
  refine aa aI (VQ s.data.toList.length (Cm s)) ?_
  unfold Pp at h
  rw[if_pos rfl] at h
  exact h
 refine aa aI (VS s.data.toList.length (Cm s) 0 [] (if sk s≥0 then 4 else 0) (if sk s≥0 then sk s else 0)) ?_
 simp only[aG.ok]
 refine⟨VU hr,fun q=> ?_,fun q=> ?_⟩
 · rcases LB s (s.size+1) 0 with g|g
   · have g:sk s≥0:=g
     rw[if_pos g]
   · have g:sk s = -1:=g
     rw[g] at q
     exact absurd q (by decide)
 · rcases LB s (s.size+1) 0 with g|g
   · have g:sk s≥0:=g
     rw[if_pos g] at q
     exact absurd q (by decide)
   · have g:sk s = -1:=g
     rw[g]
end
def tvE:Env:=mz [(4,31,sB true),(4,36,sB true),(4,41,sB true),(4,46,sB true)]
def tvQ (M:Mo) (n:Int) (lg:Bool) (e p a b c d:Int) (k:Nat) (f:FuncId) (_:List AV) (m:Mem):Option (AV×Mem):=
 match f with
 |6=>some (sB lg,m)
 |7=>some (.agg (M.aH.map .p),m)
 |18=>some (.aD [sI .i64 e,sI .i64 p],m)
 |19=>some (.aD [sI .i64 e,sI .i64 p],m)
 |20=>some (.agg [sI .i64 a,sI .i64 b,sI .i64 c,sI .i64 d],m)
 |21=>some (.agg [sI .i64 a,sI .i64 b,sI .i64 c,sI .i64 d],m)
 |16=>some (sB true,m)
 |22=>some (sB true,m)
 |_=>none
theorem YS (M:Mo) (n:Int) (lg:Bool) (e p a b c d:Int):aE aeB tvE (aJ aB av [] [(4,0,0)] [(4,0,1)]) 1000000 4 ([AV.agg (adP AV.p M.aH),sI tp n]) ([]) (.ans 6 (.p (.sc (.bool lg))) ([]) (.fork .fin (.ans 7 (.agg (adP AV.p M.aH)) ([]) (.ans 18 ((eg e p)) ([]) (.ans 19 ((eg e p)) ([]) (.ou 4 6 (tvQ M n lg e p a b c d 4) .fin)))))) =
(.call ⟨6,[.agg (adP AV.p M.aH),sI .i64 5000],[],.p (.sc (.bool lg)),[]⟩
 (.test (lg)
 (.must true
 iT)
 (.call ⟨7,(bQ M),[],.agg (adP AV.p M.aH),[]⟩
 (.call ⟨18,[.agg (adP AV.p M.aH),sI .i64 n],[],(eg e p),[]⟩
 (.call ⟨19,[.agg (adP AV.p M.aH),sI .i64 n],[],(eg e p),[]⟩
 (.call ⟨20,(bQ M),[],(dV a b c d),[]⟩
 (.call ⟨21,(bQ M),[],(dV a b c d),[]⟩
 (.call ⟨16,[.agg (adP AV.p M.aH),.agg (adP AV.p M.aH)],[],sB true,[]⟩
 (.call ⟨22,[],[],sB true,[]⟩
 (.must (dy (.p (.sc (.bool ((fun r=>a==a&&r) ((fun r=>b==b&&r) ((fun r=>c==c&&r) ((fun r=>d==d&&r) true))))))) (sB true)&&(dy (.p (.sc (.bool (e==e)))) (sB true)&&(dy (.p (.sc (.bool (p==p)))) (sB true)&&true))&&true)
 (.must true
 iT))))))))))):=by kernel_rfl
theorem Pu (M:Mo) (h:gy M=false):Gd M:=fun x hx=>by
 have b:=(List.any_eq_false.1 h) x hx
 simp only[DZ,decide_eq_true_eq] at b
 exact Pr (s:=x) (by omega)
theorem YT (M:Mo) (hw:M.wf) (hs:M.short) (n:Int):an aeB env 4 [.agg (M.aH.map .p),sI .i64 n] [] (sB true) []:=by
 have haw:an aeB env 22 [] [] (sB true) []:=Go.Am.an.env acn fun _ _ q=>q
 have hlg:=KD M hw hs
 refine an.eN (rows:=[(4,31,sB true),(4,36,sB true),(4,41,sB true),(4,46,sB true)]) ?_
 refine aa aI (YS M n (oz M) (zU M n).1 ((zU M n).2:Nat) (qG M (bO M)).1 (qG M (bO M)).2.1 (qG M (bO M)).2.2.1 (qG M (bO M)).2.2.2) ?_
 simp only[dV,bQ,eg,br,aG.ok]
 refine⟨an.cW hlg,fun _=>⟨(by first|rfl|trivial),(by first|rfl|trivial)⟩,fun hl=> ?_⟩
 obtain⟨hf,Y1,h5⟩:=N2 hl
 have hn:=YM hl
 have hel:=O6 hl
 have agX:M.els.length≤5000:=by unfold lens at h5;omega
 have hc:=KM M hf Y1 agX (Pu M)
 refine⟨an.cW (Lt M hf hn),an.cW (Lp M hf hw Y1 n),an.cW (Lq M hf hw hc n),an.cW (IQ M hf hw Y1 hel),an.cW (I9 M hf hw Y1 hel hc),an.cW (Ly M hf hn),an.cW haw,?_,?_⟩
 · simp only[beq_self_eq_true,ag2,aeN,dy,oF,GC]
   try rfl
 · first|exact⟨rfl,rfl⟩|exact⟨trivial,rfl⟩|exact⟨rfl,trivial⟩|trivial
end Go.Proofs.YtdmmllcjgjmbbaaGreatDoor.N
end
section
namespace Go.Am
open Go.RowKit Go.Lib
section
variable {H:Type} {enc:TypeId×Value→H} {P:Program} {w:World} {base:Nat} {spare:Nat→Bool} {held:Bool}
theorem Cn {lt te:TypeId} (ht:P.underlying lt=some (.slice te)) (hb:1≤P.bytesOf te) {fuel:Nat} {v:Value} {x:DataW H×List MemPlace} (h:acB enc P w base spare held fuel lt [v]=some x)
  (hw : ∀n∈x.1.weights P lt,n≤reachBytes) {g:Gh} {len sz:Nat} {cells:List PV} (hv:VP g w (.ps len sz cells) v):len≤reachBytes:=by
 rcases DataW.trod_slice ht h with⟨e,_⟩|⟨a,len',cap,elems,rest,n,rfl,e,rfl,_,_,_,hel,_,_,_⟩
 · obtain rfl:v = .slice none 0 0:=(ahd e).1
   cases hv with
   |xD=>exact acb _
 · obtain rfl:v = .slice (some a) len' cap:=(ahd e).1
   have hm:(elems.length+rest.length)*P.bytesOf te∈ahh P lt (.slice (elems.map (·.1)) (rest.map (·.1))):=by
    rw[ahh,ht]
    simp
   have q:=hw _ hm
   have r:elems.length≤(elems.length+rest.length)*P.bytesOf te:=Nat.le_trans (Nat.le_add_right _ _) (Nat.le_mul_of_pos_right _ hb)
   have hlen:len=len':=by cases hv<;>rfl
   omega
theorem sM : ∀{ts:List TypeId} {ds:List (DataW H)} {i:Nat} {t:TypeId} {d:DataW H},ts[i]? = some t→ds[i]? = some d → ∀n∈d.weights P t,n∈ahf P ts ds
 |t'::ts,d'::ds,0,t,d,h1,h2,n,hn=>by
  simp only[ml,kb] at h1 h2
  subst h1;subst h2
  rw[ahf]
  exact List.mem_append_left _ hn
 |t'::ts,d'::ds,i+1,t,d,h1,h2,n,hn=>by
  simp only[mr] at h1 h2
  rw[ahf]
  exact List.mem_append_right _ (sM h1 h2 n hn)
variable {tM xg xh xj qS xk xl xm xp zo zp Ai CU wj zq zu zw zx tL tI ti tu tn tt ts tb t8 tk:TypeId}
theorem VV (T:Ju P tM xg xh xj qS xk xl xm xp zo zp Ai CU wj zq zu zw zx tL tI ti tu tn tt ts tb t8 tk) (hb : ∀t∈[zo,zp,Ai,wj,zq,zu,zw,zx],1≤P.bytesOf t)
  {fuel:Nat} {cs:List Value} {x:DataW H×List MemPlace} (h:acB enc P w base spare held fuel tM cs=some x) (hw : ∀n∈x.1.weights P tM,n≤reachBytes) {g:Gh} {M:Mo} (hv:MX g w M.aH cs):M.short:=by
 obtain⟨fs,q1,q2,q3⟩:=T.st (tM,[xg,xh,xj,qS,qS,xk,xl,tb,tu,xm,xp]) (by simp)
 obtain⟨xs,n,rfl,rfl,h3,h4,h5⟩:=ahi q1 h
 have hW : ∀n∈ahf P (fs.toList.map (·.type)) (xs.map (·.1)),n≤reachBytes:=by
  intro n hn
  refine hw n ?_
  rw[ahh,q1]
  exact hn
 have one : ∀(i:Nat) (lt te:TypeId) (len sz:Nat) (cells:List PV) (v:Value),[xg,xh,xj,qS,qS,xk,xl,tb,tu,xm,xp][i]? = some lt→(lt,te)∈[(xg,zo),(xh,zp),(xj,Ai),(qS,wj),(xk,zq),(xl,zu),(xm,zw),(xp,zx)] →
   P.cellsOf lt=1→1≤P.bytesOf te→(cs.drop i).take 1=[v]→VP g w (.ps len sz cells) v→len≤1000000000000000:=by
  intro i lt te len sz cells v hi hm jG ZV hcs hvp
  obtain⟨f,f1,f2,f3⟩:=fld (fs:=fs) (i:=i) (o:=i) (t:=lt) (by rw[q3,en,List.getElem?_zipIdx,hi];simp)
  have e:=h5 i f f1
  rw[f2,f3,jG,hcs] at e
  have Cq:i<xs.length:=by
   rw[h4]
   rcases Nat.lt_or_ge i fs.size with q|q
   · exact q
   · rw[Array.getElem?_eq_none q] at f1;cases f1
  rw[df Cq] at e
  have r:=Cn (T.sl (lt,te) hm) ZV e (fun n hn=>hW n (sM (i:=i) (t:=lt) (d:=xs[i].1) (by rw[en,mb,f1];simp[f3]) (by rw[en,df Cq];rfl) n hn)) hvp
  have:reachBytes≤1000000000000000:=by decide
  omega
 match cs,hv with
 |[u0,u1,u2,u3,u4,u5,u6,u7,u8,u9,u10],hv=>
  obtain⟨v0,v1,v2,v3,v4,v5,v6,v7,v8,v9,v10,_⟩:=hv
  exact⟨one 0 xg zo _ _ _ u0 rfl (by simp) (T.c1 (by simp)) (hb _ (by simp)) rfl v0,one 1 xh zp _ _ _ u1 rfl (by simp) (T.c1 (by simp)) (hb _ (by simp)) rfl v1,one 2 xj Ai _ _ _ u2 rfl (by simp) (T.c1 (by simp)) (hb _ (by simp)) rfl v2,
   one 3 qS wj _ _ _ u3 rfl (by simp) (T.c1 (by simp)) (hb _ (by simp)) rfl v3,one 4 qS wj _ _ _ u4 rfl (by simp) (T.c1 (by simp)) (hb _ (by simp)) rfl v4,one 5 xk zq _ _ _ u5 rfl (by simp) (T.c1 (by simp)) (hb _ (by simp)) rfl v5,
   one 6 xl zu _ _ _ u6 rfl (by simp) (T.c1 (by simp)) (hb _ (by simp)) rfl v6,one 9 xm zw _ _ _ u9 rfl (by simp) (T.c1 (by simp)) (hb _ (by simp)) rfl v9,one 10 xp zx _ _ _ u10 rfl (by simp) (T.c1 (by simp)) (hb _ (by simp)) rfl v10⟩
end
theorem LC {P:Program} {W:World} {name:String} {d:DataW Unit} {k:IntKind} {zs:List (Int×Int)} {g t e n t1:Nat} {fs:Array Field} (h:VarReads P W name d) (hd:d = .agg (zs.map fun z=> .agg [.lit (.int k z.1),.lit (.int k z.2)])) (hg:P.globalNamed name=some g)
  (ht:(P.globals[g]?).map (·.type)=some t) (hu:P.underlying t=some (.array n e)) (he:P.underlying e=some (.struct fs)) (hf:(fs.toList.map fun f=>(f.offset,f.type))=[(0,t1),(1,t1)]) (hk:P.underlying t1=some (.int k)) (hc:P.cellsOf e=2) (jG:P.cellsOf t1=1) (hn:zs.length≤n) :
  ∀(i:Nat) (v:Value),((zs.flatMap fun z=>[z.1,z.2]).map (vd k))[i]? = some v→W.cell? ⟨g,i,none⟩=some v∧v.oneCell'=true:=by
 subst hd
 obtain⟨g',t',cs,fuel,p,h1,h2,h3,h4⟩:=h
 rw[hg] at h1;cases h1
 rw[ht] at h2;cases h2
 have two : ∀(i:Nat) (z:Int×Int),zs[i]? = some z→W.cell? ⟨g,i*2,none⟩=some (.int k z.1)∧W.cell? ⟨g,i*2+1,none⟩=some (.int k z.2):=by
  intro i z hz
  have hi:i<zs.length:=(dt.1 hz).1
  obtain⟨fuel',d,q,hd,Za⟩:=array_elem hu h4 i (by omega)
  rw[en,hz] at hd
  simp only[Option.map_some,kb] at hd
  subst hd
  obtain⟨xs,m,rfl,hx,hl,hxl,mE⟩:=ahi he Za
  obtain⟨f0,a1,a2,a3⟩:=fld (fs:=fs) (i:=0) (o:=0) (t:=t1) (by rw[hf];rfl)
  obtain⟨f1,b1,b2,b3⟩:=fld (fs:=fs) (i:=1) (o:=1) (t:=t1) (by rw[hf];rfl)
  have e0:=mE 0 f0 a1
  have e1:=mE 1 f1 b1
  rw[a2,a3,jG] at e0
  rw[b2,b3,jG] at e1
  have hxs:=congrArg Prod.fst hx
  simp only[DataW.agg.injEq] at hxs
  have hs:fs.size=2:=by
   have:=congrArg List.length hf
   simpa using this
  rw[hs] at hxl
  match xs,hxl with
  |[x0,x1],_=>
   simp only[mi,List.map_nil,ahc,and_true] at hxs
   simp only[ml,mr] at e0 e1
   obtain⟨z0,g0,k0,_⟩:=acE hk e0
   obtain⟨z1,g1,k1,_⟩:=acE hk e1
   obtain⟨y0,y1⟩:=hxs
   rw[k0] at y0
   rw[k1] at y1
   simp only[DataW.lit.injEq,Lit.int.injEq,true_and] at y0 y1
   subst y0;subst y1
   refine⟨?_,?_⟩
   · rw[World.var?_cell hg h3 (i*2),←mb]
     have:=congrArg (·[0]?) g0
     simpa[di,dq,hc] using this
   · rw[World.var?_cell hg h3 (i*2+1),←mb]
     have:=congrArg (·[0]?) g1
     simpa[di,dq,hc] using this
 have at2 : ∀(l:List (Int×Int)) (i:Nat) (v:Int),(l.flatMap fun z=>[z.1,z.2])[i]? = some v → ∃z,l[i / 2]? = some z∧((i%2=0∧v=z.1)∨(i%2=1∧v=z.2)):=by
  intro l
  induction l with
  |nil=>intro i v h;cases h
  |cons z r ih=>
   intro i v h
   match i,h with
   |0,h=>exact⟨z,rfl,.inl ⟨rfl,by simpa using h.symm⟩⟩
   |1,h=>exact⟨z,rfl,.inr ⟨rfl,by simpa using h.symm⟩⟩
   |i+2,h=>
    obtain⟨y,h1,h2⟩:=ih i v (by simpa using h)
    refine⟨y,?_,?_⟩
    · rw[show(i+2) / 2=i / 2+1 by omega];exact h1
    · rcases h2 with⟨a,b⟩|⟨a,b⟩
      · exact .inl ⟨by omega,b⟩
      · exact .inr ⟨by omega,b⟩
 intro i v hv
 rw[en,Option.map_eq_some_iff] at hv
 obtain⟨z,hz,rfl⟩:=hv
 obtain⟨y,h1,h2⟩:=at2 zs i z hz
 obtain⟨c1,c2⟩:=two (i / 2) y h1
 refine⟨?_,rfl⟩
 rcases h2 with⟨a,rfl⟩|⟨a,rfl⟩
 · rw[show i / 2*2=i by omega] at c1;exact c1
 · rw[show i / 2*2+1=i by omega] at c2;exact c2
end Go.Am
end
section
namespace Go.Proofs.YtdmmllcjgjmbbaaGreatDoor.N
open Go Go.Am
def tJ:List (String×DataW Unit):=Rows.validTellsRow.laid
def aen:List (Int×Int):=[(128,191),(160,191),(128,159),(144,191),(128,143)]++List.replicate 11 (0,0)
theorem agY:adu=aen.flatMap fun z=>[z.1,z.2]:=by decide
def fieldsOf (t:TypeId):Array Field:=match aeB.underlying t with
 |some (.struct fs)=>fs
 |_=> #[]
theorem Ff {W:World} (h:laidMetH aeB tJ W):ni tabs W:=by
 rw[MakeChecks.laidMetH_plain _ _ _ (by kernel_rfl)] at h
 refine ow (zi (n:=256) (t:=190) (e:=5) (k:= .u8) (zs:=QZ) (ahj h (n:= "strings.asciiSpace") (d:=Rows.laid_strings_asciiSpace) (.tail _ (.tail _ (.head _)))) (by kernel_rfl) (by kernel_rfl) (by kernel_rfl) (by kernel_rfl) (by kernel_rfl) (by kernel_rfl) (ae (by kernel_rfl)))
  (ow (zi (n:=256) (t:=190) (e:=5) (k:= .u8) (zs:=kO) (ahj h (n:= "unicode/utf8.first") (d:=Rows.laid_unicode_utf8_first) (.tail _ (.tail _ (.tail _ (.head _))))) (by kernel_rfl) (by kernel_rfl) (by kernel_rfl) (by kernel_rfl) (by kernel_rfl) (by kernel_rfl) (ae (by kernel_rfl)))
  (ow ?_ F3))
 rw[agY]
 exact LC (n:=16) (t:=194) (e:=193) (t1:=5) (k:= .u8) (zs:=aen) (fs:=fieldsOf 193) (ahj h (n:= "unicode/utf8.acceptRanges") (d:=Rows.laid_unicode_utf8_acceptRanges) (.head _)) (by kernel_rfl) (by kernel_rfl) (by kernel_rfl) (by kernel_rfl) (by kernel_rfl) (by kernel_rfl) (by kernel_rfl) (by kernel_rfl) (by kernel_rfl) (ae (by kernel_rfl))
theorem agZ:aaw aeB 53 55 3 28 21 52 (fieldsOf 55) where
 hL:=by kernel_rfl
 hI:=by kernel_rfl
 hz:=by kernel_rfl
 hf:=by kernel_rfl
 h1:=⟨by kernel_rfl,by kernel_rfl,by kernel_rfl,by kernel_rfl,by kernel_rfl⟩
 ki:=by kernel_rfl
 ku:=by kernel_rfl
 kn:=by kernel_rfl
 kt:=by kernel_rfl
theorem moT:Ju aeB 32 22 23 24 25 26 27 29 30 36 70 59 57 105 63 72 65 68 53 55 3 28 21 52 9 4 66 5 where
 ins:=⟨_,agZ⟩
 us:=by kernel_rfl
 ub:=by kernel_rfl
 u8:=by kernel_rfl
 uk:=by kernel_rfl
 one:=by kernel_rfl
 sl q hq:=by
  simp only[pB,aha,or_false] at hq
  rcases hq with rfl|rfl|rfl|rfl|rfl|rfl|rfl|rfl
  · kernel_rfl
  · kernel_rfl
  · kernel_rfl
  · kernel_rfl
  · kernel_rfl
  · kernel_rfl
  · kernel_rfl
  · kernel_rfl
 st q hq:=by
  simp only[pB,aha,or_false] at hq
  rcases hq with rfl|rfl|rfl|rfl|rfl|rfl|rfl|rfl|rfl
  · exact⟨fieldsOf 32,by kernel_rfl,by kernel_rfl,by kernel_rfl⟩
  · exact⟨fieldsOf 36,by kernel_rfl,by kernel_rfl,by kernel_rfl⟩
  · exact⟨fieldsOf 70,by kernel_rfl,by kernel_rfl,by kernel_rfl⟩
  · exact⟨fieldsOf 57,by kernel_rfl,by kernel_rfl,by kernel_rfl⟩
  · exact⟨fieldsOf 105,by kernel_rfl,by kernel_rfl,by kernel_rfl⟩
  · exact⟨fieldsOf 63,by kernel_rfl,by kernel_rfl,by kernel_rfl⟩
  · exact⟨fieldsOf 72,by kernel_rfl,by kernel_rfl,by kernel_rfl⟩
  · exact⟨fieldsOf 65,by kernel_rfl,by kernel_rfl,by kernel_rfl⟩
  · exact⟨fieldsOf 68,by kernel_rfl,by kernel_rfl,by kernel_rfl⟩
 fu:=⟨fieldsOf 59,by kernel_rfl,by kernel_rfl,by kernel_rfl⟩
theorem moB : ∀t∈[36,70,59,105,63,72,65,68],1≤aeB.bytesOf t:=by
 have h:([36,70,59,105,63,72,65,68].all fun t=>ar 1 (aeB.bytesOf t))=true:=by kernel_rfl
 intro t ht
 exact ae (List.all_eq_true.1 h t ht)
end Go.Proofs.YtdmmllcjgjmbbaaGreatDoor.N
end
