import Derived.Test.YtjfgfhaoeicpdaaGreatDoorMP
open Nat renaming zero_add→pj,sub_zero→aaW,ble_eq→aeT,beq→ae
open List renaming map→abG,length_map→mf,map_append→abm,map_take→afN,map_cons→oe,map_nil→vd,take_of_length_le→dk,length_append→de
open Go.IntKind renaming i64→rn
open Go.Proofs.Tryz renaming prog→ab5
open Min renaming min→ad3
open Max renaming max→aeh
open Option renaming none→acb
open Go.Value renaming int→sd
open Int renaming toNat_natCast→aep
open Bool renaming false_eq_true→oE,true_eq_false→afn,and_eq_true→ch,and_true→aeU,not_false→oR,not_true→xo,true_and→ae2
open And renaming intro→afQ
noncomputable section
section
set_option linter.unusedSimpArgs false
namespace Go.Proofs.YtjfgfhaoeicpdaaGreatDoor.N
open Go Go.Am
def stC (cl:List PV) (k:Nat) (f:FuncId) (m:Mem):Option (AV×Mem):=cond (ae f 138) (some (sI .i64 0,m)) (cond (ae f 139) (some (.ms 1 0 (k+1) 4 none,m++[dj cl])) none)
def Mm (k:Nat) (base res:Int) (dead b:Bool):List (Nat×Nat×AV):=[(126,15,sI .i64 base),(126,37,sI .i64 base),(126,22,sB dead),(126,18,sB b),(125,11,sI .i64 res),(125,15,sI .i64 base),(125,41,sI .i64 k)]
def QD (_h:Int) (k:Nat) (_cs _cl:List PV) (_op base res:Int) (dead:Bool) (_n:Int):Env:=va (Mm k base res dead false)
def adP (_h:Int) (k:Nat) (_cs _cl:List PV) (_op base res:Int) (dead:Bool) (_n:Int):Env:=va (Mm k base res dead true)
def ZL (_h:Int) (k:Nat) (_cs cl:List PV) (_op _base _res:Int) (_dead:Bool) (_n:Int) (f:FuncId) (_:List AV) (m:Mem):Option (AV×Mem):=stC cl k f m
def ZM (_h:Int) (k:Nat) (_cs _cl:List PV) (_op base _res:Int) (_dead:Bool) (_n:Int):FuncId→Nat→Nat→Option (AV→AV):=cL [(124,5,6,sI .i64 k),(141,2,5,sI .i64 base)]
def ahj (_h:Int) (k:Nat) (_cs cl:List PV) (_op _base _res:Int) (_dead:Bool) (_n:Int) (f:FuncId) (_:List AV) (m:Mem):Option (AV×Mem):=cond (ae f 138) (some (sI .i64 0,m)) (cond (ae f 139) (some (.ms 1 0 (k+1) 4 none,m++[dj cl])) none)
def adQ (h:Int) (k:Nat) (_cs cl:List PV) (_op _base _res:Int) (_dead:Bool) (_n:Int) (f:FuncId) (_:List AV) (m:Mem):Option (AV×Mem):=cond (ae f 148) (some (sB true,m)) (cond (ae f 124) (some (.aA [.agg [sI .i64 h,.ms 3 0 (k+2) 4 none],sI .i64 0],m++[dj cl])) none)
def seE (_h:Int) (_k:Nat) (_cs _cl:List PV) (_op _base _res:Int) (_dead:Bool) (_n:Int):Env:=va [(143,13,sB true),(143,17,sB true)]
def UJ (h:Int) (k:Nat) (cs:List PV) (cl:List PV) (op base res:Int) (dead:Bool) (n:Int):bD:=fy (ZL h k cs cl op base res dead n) av [] [(124,2,3)] [(124,5,7),(126,0,0),(126,0,1)] (ZM h k cs cl op base res dead n)
def ZN:Sc:= .fin
def E9 (h:Int) (k:Nat) (cs:List PV) (cl:List PV) (_op base _res:Int) (_dead:Bool) (n:Int):aC:=
 (.test (!decide (n≥0))
 (.out (.ret (.aA [.agg [sI .i64 0,mq],sI .i64 2]) [.ob (aG.gr 185 true) (abG aa (abG aa (abG aa (abG aa (abG AV.p cs)))))]))
 (.call ⟨138,[.agg [sI .i64 h,.ms 0 0 (k+1) 4 none]],[.ob (aG.gr 185 true) (abG aa (abG aa (abG AV.p cs)))],sI .i64 0,[.ob (aG.gr 185 true) (abG aa (abG aa (abG AV.p cs)))]⟩
 (.call ⟨139,[.ms 0 0 (k+1) 4 none],[.ob (aG.gr 185 true) (abG aa (abG aa (abG aa (abG aa (abG AV.p cs)))))],.ms 1 0 (k+1) 4 none,[.ob (aG.gr 185 true) (abG aa (abG aa (abG aa (abG aa (abG AV.p cs))))),.ob (aG.gr 185 true) (abG AV.p cl)]⟩
 (.need (sI .i64 (rn.wrap ((↑(k+1):Int)-1))=sI rn (↑k:Int))
 (.must (bp (↑k:Int) (k+1)&&true&&true)
 (.must ((0+(aK k)*4+1+1).ble (abG aa (abG aa (abG aa (abG AV.p cl)))).length&&(bC (ab5.underlying 3) ((abG aa (abG aa (abG aa (abG AV.p cl)))).getD (0+(aK k)*4+1) .aj)).snd&&true&&dy (bC (ab5.underlying 3) ((abG aa (abG aa (abG aa (abG AV.p cl)))).getD (0+(aK k)*4+1) .aj)).fst (sI .i64 base)&&(dy (.p (.sc (.bool (decide (n>rn.wrap (h-base)))))) (sB false)&&true)&&true)
 (.must ((0+(aK k)*4+1+1).ble (abG aa (abG aa (abG aa (abG AV.p cl)))).length&&(bC (ab5.underlying 3) ((abG aa (abG aa (abG aa (abG AV.p cl)))).getD (0+(aK k)*4+1) .aj)).snd&&true&&dy (bC (ab5.underlying 3) ((abG aa (abG aa (abG aa (abG AV.p cl)))).getD (0+(aK k)*4+1) .aj)).fst (sI .i64 base)&&true&&true)
 (.must true
 (.out (.ret (.aA [.agg [sI .i64 (rn.wrap (h-bif true then ad3 n (rn.wrap (h-base)) else aeh n (rn.wrap (h-base)))),.ms 1 0 (k+1) 4 none],sI .i64 0]) [.ob (aG.gr 185 true) (abG aa (abG aa (abG aa (abG aa (abG aa (abG aa (abG aa (abG aa (abG AV.p cs))))))))),.ob (aG.gr 185 true) (abG aa (abG aa (abG aa (abG aa (abG aa (abG aa (abG aa (abG aa (abG aa (abG aa (abG AV.p cl)))))))))))]))))))))))
theorem LD (h:Int) (k:Nat) (cs:List PV) (cl:List PV) (op base res:Int) (dead:Bool) (n:Int):aH ab5 (QD h k cs cl op base res dead n) (UJ h k cs cl op base res dead n) 1000000 134 ([AV.agg [sI rn h,AV.ms 0 0 (k+1) 4 acb],sI rn n]) ([dj cs]) ZN=E9 h k cs cl op base res dead n:=by kernel_rfl
def UK (h:Int) (k:Nat) (cs:List PV) (cl:List PV) (op base res:Int) (dead:Bool) (n:Int):bD:=fy (ZL h k cs cl op base res dead n) av [] [(124,2,3),(126,0,0)] [(124,5,7),(126,0,0),(126,0,1)] (ZM h k cs cl op base res dead n)
def ZO:Sc:= .fin
def zb (h:Int) (k:Nat) (cs:List PV) (cl:List PV) (_op base _res:Int) (dead:Bool) (n:Int):aC:=
 (.test (!decide (n≥0))
 (.out (.ret (.aA [.agg [sI .i64 0,mq],sI .i64 2]) [.ob (aG.gr 185 true) (abG aa (abG aa (abG aa (abG aa (abG AV.p cs)))))]))
 (.call ⟨138,[.agg [sI .i64 h,.ms 0 0 (k+1) 4 none]],[.ob (aG.gr 185 true) (abG aa (abG aa (abG AV.p cs)))],sI .i64 0,[.ob (aG.gr 185 true) (abG aa (abG aa (abG AV.p cs)))]⟩
 (.call ⟨139,[.ms 0 0 (k+1) 4 none],[.ob (aG.gr 185 true) (abG aa (abG aa (abG aa (abG aa (abG AV.p cs)))))],.ms 1 0 (k+1) 4 none,[.ob (aG.gr 185 true) (abG aa (abG aa (abG aa (abG aa (abG AV.p cs))))),.ob (aG.gr 185 true) (abG AV.p cl)]⟩
 (.need (sI .i64 (rn.wrap ((↑(k+1):Int)-1))=sI rn (↑k:Int))
 (.must (bp (↑k:Int) (k+1)&&true&&true)
 (.must ((0+(aK k)*4+1+1).ble (abG aa (abG aa (abG aa (abG AV.p cl)))).length&&(bC (ab5.underlying 3) ((abG aa (abG aa (abG aa (abG AV.p cl)))).getD (0+(aK k)*4+1) .aj)).snd&&true&&dy (bC (ab5.underlying 3) ((abG aa (abG aa (abG aa (abG AV.p cl)))).getD (0+(aK k)*4+1) .aj)).fst (sI .i64 base)&&(dy (.p (.sc (.bool (decide (n>rn.wrap (h-base)))))) (sB true)&&((0+(aK k)*4+3+1).ble (abG aa (abG aa (abG aa (abG AV.p cl)))).length&&(bC (ab5.underlying 4) ((abG aa (abG aa (abG aa (abG AV.p cl)))).getD (0+(aK k)*4+3) .aj)).snd&&true&&dy (bC (ab5.underlying 4) ((abG aa (abG aa (abG aa (abG AV.p cl)))).getD (0+(aK k)*4+3) .aj)).fst (.p (.sc (.bool dead)))&&true))&&true)
 (.test (!dead)
 (.must true
 (.out (.ret (.aA [.agg [sI .i64 0,mq],sI .i64 200]) [.ob (aG.gr 185 true) (abG aa (abG aa (abG aa (abG aa (abG aa (abG aa (abG aa (abG aa (abG AV.p cs)))))))))])))
 (.must ((0+(aK k)*4+1+1).ble (abG aa (abG aa (abG aa (abG AV.p cl)))).length&&(bC (ab5.underlying 3) ((abG aa (abG aa (abG aa (abG AV.p cl)))).getD (0+(aK k)*4+1) .aj)).snd&&true&&dy (bC (ab5.underlying 3) ((abG aa (abG aa (abG aa (abG AV.p cl)))).getD (0+(aK k)*4+1) .aj)).fst (sI .i64 base)&&true&&true)
 (.must true
 (.out (.ret (.aA [.agg [sI .i64 (rn.wrap (h-bif true then ad3 n (rn.wrap (h-base)) else aeh n (rn.wrap (h-base)))),.ms 1 0 (k+1) 4 none],sI .i64 0]) [.ob (aG.gr 185 true) (abG aa (abG aa (abG aa (abG aa (abG aa (abG aa (abG aa (abG aa (abG AV.p cs))))))))),.ob (aG.gr 185 true) (abG aa (abG aa (abG aa (abG aa (abG aa (abG aa (abG aa (abG aa (abG aa (abG aa (abG AV.p cl)))))))))))])))))))))))
theorem Br (h:Int) (k:Nat) (cs:List PV) (cl:List PV) (op base res:Int) (dead:Bool) (n:Int):aH ab5 (adP h k cs cl op base res dead n) (UK h k cs cl op base res dead n) 1000000 134 ([AV.agg [sI rn h,AV.ms 0 0 (k+1) 4 acb],sI rn n]) ([dj cs]) ZO=zb h k cs cl op base res dead n:=by kernel_rfl
def UL (h:Int) (k:Nat) (cs:List PV) (cl:List PV) (op base res:Int) (dead:Bool) (n:Int):bD:=fy (ZL h k cs cl op base res dead n) av [] [(124,2,3),(146,0,0)] [(124,5,7)] (ZM h k cs cl op base res dead n)
def ZP:Sc:= .fin
def Fa (h:Int) (k:Nat) (cs:List PV) (cl:List PV) (_op _base _res:Int) (_dead:Bool) (n:Int):aC:=
 (.test (!decide (n≥0))
 (.out (.ret (.aA [.agg [sI .i64 0,mq],sI .i64 2]) [.ob (aG.gr 185 true) (abG aa (abG aa (abG aa (abG aa (abG AV.p cs)))))]))
 (.call ⟨138,[.agg [sI .i64 h,.ms 0 0 (k+1) 4 none]],[.ob (aG.gr 185 true) (abG aa (abG aa (abG AV.p cs)))],sI .i64 0,[.ob (aG.gr 185 true) (abG aa (abG aa (abG AV.p cs)))]⟩
 (.call ⟨139,[.ms 0 0 (k+1) 4 none],[.ob (aG.gr 185 true) (abG aa (abG aa (abG aa (abG aa (abG AV.p cs)))))],.ms 1 0 (k+1) 4 none,[.ob (aG.gr 185 true) (abG aa (abG aa (abG aa (abG aa (abG AV.p cs))))),.ob (aG.gr 185 true) (abG AV.p cl)]⟩
 (.need (sI .i64 (rn.wrap ((↑(k+1):Int)-1))=sI rn (↑k:Int))
 (.must (bp (↑k:Int) (k+1)&&true&&true)
 (.test (decide (n>rn.wrap (1073741824-h)))
 (.out (.ret (.aA [.agg [sI .i64 0,mq],sI .i64 8]) [.ob (aG.gr 185 true) (abG aa (abG aa (abG aa (abG aa (abG aa (abG aa (abG aa (abG aa (abG AV.p cs)))))))))]))
 (.out (.ret (.aA [.agg [sI .i64 (rn.wrap (h+n)),.ms 1 0 (k+1) 4 none],sI .i64 0]) [.ob (aG.gr 185 true) (abG aa (abG aa (abG aa (abG aa (abG aa (abG aa (abG aa (abG aa (abG AV.p cs))))))))),.ob (aG.gr 185 true) (abG aa (abG aa (abG aa (abG aa (abG aa (abG aa (abG aa (abG aa (abG aa (abG aa (abG AV.p cl)))))))))))]))))))))
theorem LF (h:Int) (k:Nat) (cs:List PV) (cl:List PV) (op base res:Int) (dead:Bool) (n:Int):aH ab5 (QD h k cs cl op base res dead n) (UL h k cs cl op base res dead n) 1000000 136 ([AV.agg [sI rn h,AV.ms 0 0 (k+1) 4 acb],sI rn n]) ([dj cs]) ZP=Fa h k cs cl op base res dead n:=by kernel_rfl
def UM (h:Int) (k:Nat) (cs:List PV) (cl:List PV) (op base res:Int) (dead:Bool) (n:Int):bD:=fy (ZL h k cs cl op base res dead n) av [] [] [(124,5,7),(141,2,5),(141,2,11)] (ZM h k cs cl op base res dead n)
def ZQ:Sc:= .fin
def Fb (h:Int) (k:Nat) (cs:List PV) (cl:List PV) (_op base _res:Int) (_dead:Bool) (_n:Int):aC:=
 (.call ⟨138,[.agg [sI .i64 h,.ms 0 0 (k+1) 4 none]],[.ob (aG.gr 185 true) (abG aa (abG aa (abG AV.p cs)))],sI .i64 0,[.ob (aG.gr 185 true) (abG aa (abG aa (abG AV.p cs)))]⟩
 (.call ⟨139,[.ms 0 0 (k+1) 4 none],[.ob (aG.gr 185 true) (abG aa (abG aa (abG aa (abG aa (abG AV.p cs)))))],.ms 1 0 (k+1) 4 none,[.ob (aG.gr 185 true) (abG aa (abG aa (abG aa (abG aa (abG AV.p cs))))),.ob (aG.gr 185 true) (abG AV.p cl)]⟩
 (.need (sI .i64 (rn.wrap ((↑(k+1):Int)-1))=sI rn (↑k:Int))
 (.must (bp (↑k:Int) (k+1)&&true&&true)
 (.must ((0+(aK k)*4+1+1).ble (abG aa (abG aa (abG AV.p cl))).length&&(bC (ab5.underlying 3) ((abG aa (abG aa (abG AV.p cl))).getD (0+(aK k)*4+1) .aj)).snd&&true)
 (.need (((bC (ab5.underlying 3) ((abG aa (abG aa (abG AV.p cl))).getD (0+(aK k)*4+1) AV.aj)).fst,(0+(aK k)*4+1+1).ble (abG aa (abG aa (abG AV.p cl))).length&&(bC (ab5.underlying 3) ((abG aa (abG aa (abG AV.p cl))).getD (0+(aK k)*4+1) AV.aj)).snd).fst=sI rn base)
 (.must ((0+(aK k)*4+3+1).ble (abG aa (abG aa (abG AV.p cl))).length&&true&&true&&true)
 (.out (.ret (.aA [.agg [sI .i64 base,.ms 1 0 (k+1) 4 none],sI .i64 0]) [.ob (aG.gr 185 true) (abG aa (abG aa (abG aa (abG aa (abG aa (abG aa (abG aa (abG aa (abG AV.p cs))))))))),.ob (aG.gr 185 true) (abG aa (abG aa (abG aa (abG aa (abG aa (cZ (abG aa (abG aa (abG AV.p cl))) (0+(aK k)*4+3) [sB true]))))))])))))))))
theorem LG (h:Int) (k:Nat) (cs:List PV) (cl:List PV) (op base res:Int) (dead:Bool) (n:Int):aH ab5 (QD h k cs cl op base res dead n) (UM h k cs cl op base res dead n) 1000000 130 ([AV.agg [sI rn h,AV.ms 0 0 (k+1) 4 acb]]) ([dj cs]) ZQ=Fb h k cs cl op base res dead n:=by kernel_rfl
def UN (h:Int) (k:Nat) (cs:List PV) (cl:List PV) (op base res:Int) (dead:Bool) (n:Int):bD:=fy (ahj h k cs cl op base res dead n) av [] [(151,0,0)] [(124,5,7),(151,0,1)] (ZM h k cs cl op base res dead n)
def ZR:Sc:= .fin
def Fc (h:Int) (k:Nat) (cs:List PV) (cl:List PV) (op _base _res:Int) (_dead:Bool) (n:Int):aC:=
 (.call ⟨138,[.agg [sI .i64 h,.ms 0 0 (k+1) 4 none]],[.ob (aG.gr 185 true) (abG aa (abG AV.p cs))],sI .i64 0,[.ob (aG.gr 185 true) (abG aa (abG AV.p cs))]⟩
 (.call ⟨139,[.ms 0 0 (k+1) 4 none],[.ob (aG.gr 185 true) (abG aa (abG aa (abG aa (abG AV.p cs))))],.ms 1 0 (k+1) 4 none,[.ob (aG.gr 185 true) (abG aa (abG aa (abG aa (abG AV.p cs)))),.ob (aG.gr 185 true) (abG AV.p cl)]⟩
 (.need (sI .i64 (rn.wrap ((↑(k+1):Int)-1))=sI rn (↑k:Int))
 (.must (bp (↑k:Int) (k+1)&&true&&true)
 (.test (decide ((↑(k+1):Int)≥1000))
 (.must true
 (.out (.ret (.aA [.agg [sI .i64 0,mq],sI .i64 8]) [.ob (aG.gr 185 true) (abG aa (abG aa (abG aa (abG aa (abG aa (abG AV.p cs)))))),.pc [sP op],.pc [sP n]])))
 (.must (((k+1+1)*32).ble ef&&(k+1+1).ble ef&&(((k+1)*4).ble (abG aa (abG aa (abG AV.p cl))).length&&true)&&true&&true&&true)
 (.must true
 (.out (.ret (.aA [.agg [sI .i64 h,.ms 3 0 (k+1+1) 4 none],sI .i64 0]) [.ob (aG.gr 185 true) (abG aa (abG aa (abG aa (abG aa (abG aa (abG AV.p cs)))))),.pc [sP op],.pc [sP n],.ob (aG.gr 185 true) (abG aa (abG aa (abG aa (List.take ((k+1)*4) (abG aa (abG aa (abG AV.p cl)))++[sI .i64 op,sI .i64 h,sI .i64 n,sB false]))))])))))))))
theorem LH (h:Int) (k:Nat) (cs:List PV) (cl:List PV) (op base res:Int) (dead:Bool) (n:Int):aH ab5 (QD h k cs cl op base res dead n) (UN h k cs cl op base res dead n) 1000000 124 ([AV.agg [sI rn h,AV.ms 0 0 (k+1) 4 acb],sB true,AV.fn (Fn.func 151) [] [AV.mp 1 0,AV.mp 2 0]]) ([dj cs,aU.pc [PV.sc (sd rn op)],aU.pc [PV.sc (sd rn n)]]) ZR=Fc h k cs cl op base res dead n:=by kernel_rfl
def UO (h:Int) (k:Nat) (cs:List PV) (cl:List PV) (op base res:Int) (dead:Bool) (n:Int):bD:=aQ (ZL h k cs cl op base res dead n) (adQ h k cs cl op base res dead n) [] [] [(143,0,0)]
def ZS:Sc:= .fin
def Fe (h:Int) (k:Nat) (cs:List PV) (cl:List PV) (op _base _res:Int) (_dead:Bool) (n:Int):aC:=
 (.call ⟨148,[sI .i64 op],[],sB true,[]⟩
 (.call ⟨124,[.agg [sI .i64 h,.ms 0 0 (k+1) 4 none],sB true,.fn (Fn.func 151) [] [.mp 1 0,.mp 2 0]],[.ob (aG.gr 185 true) (abG aa (abG AV.p cs)),.pc [sP op],.pc [sP n]],.aA [.agg [sI .i64 h,.ms 3 0 (k+2) 4 none],sI .i64 0],[.ob (aG.gr 185 true) (abG aa (abG AV.p cs)),.pc [sP op],.pc [sP n],.ob (aG.gr 185 true) (abG AV.p cl)]⟩
 (.must (dy (.p (.sc (.bool (decide (n≥0))))) (sB true)&&(dy (.p (.sc (.bool (decide (n≤1))))) (sB true)&&true)&&true)
 (.must true
 (.out (.ret (.aA [.agg [sI .i64 h,.ms 1 0 (k+2) 4 none],sI .i64 0]) [.ob (aG.gr 185 true) (abG aa (abG aa (abG aa (abG AV.p cs)))),.ob (aG.gr 185 true) (abG aa (abG aa (abG AV.p cl)))]))))))
theorem LI (h:Int) (k:Nat) (cs:List PV) (cl:List PV) (op base res:Int) (dead:Bool) (n:Int):aH ab5 (seE h k cs cl op base res dead n) (UO h k cs cl op base res dead n) 1000000 143 ([AV.agg [sI rn h,AV.ms 0 0 (k+1) 4 acb],sI rn op,sI rn n]) ([dj cs]) ZS=Fe h k cs cl op base res dead n:=by kernel_rfl
def UP (h:Int) (k:Nat) (cs:List PV) (cl:List PV) (op base res:Int) (dead:Bool) (n:Int):bD:=fy (ZL h k cs cl op base res dead n) av [] [(125,0,1)] [(124,5,7),(125,0,0),(126,0,0),(126,0,1),(125,0,2)] (ZM h k cs cl op base res dead n)
def ZT:Sc:= .fin
def zc (h:Int) (k:Nat) (cs:List PV) (cl:List PV) (_op base res:Int) (_dead:Bool) (_n:Int):aC:=
 (.call ⟨138,[.agg [sI .i64 h,.ms 0 0 (k+1) 4 none]],[.ob (aG.gr 185 true) (abG aa (abG aa (abG AV.p cs)))],sI .i64 0,[.ob (aG.gr 185 true) (abG aa (abG aa (abG AV.p cs)))]⟩
 (.call ⟨139,[.ms 0 0 (k+1) 4 none],[.ob (aG.gr 185 true) (abG aa (abG aa (abG aa (abG aa (abG AV.p cs)))))],.ms 1 0 (k+1) 4 none,[.ob (aG.gr 185 true) (abG aa (abG aa (abG aa (abG aa (abG AV.p cs))))),.ob (aG.gr 185 true) (abG AV.p cl)]⟩
 (.need (sI .i64 (rn.wrap ((↑(k+1):Int)-1))=sI rn (↑k:Int))
 (.must (bp (↑k:Int) (k+1)&&true&&true)
 (.must ((0+(aK k)*4+2+1).ble (abG aa (abG aa (abG AV.p cl))).length&&(bC (ab5.underlying 3) ((abG aa (abG aa (abG AV.p cl))).getD (0+(aK k)*4+2) .aj)).snd&&true&&dy (bC (ab5.underlying 3) ((abG aa (abG aa (abG AV.p cl))).getD (0+(aK k)*4+2) .aj)).fst (sI .i64 res)&&((0+(aK k)*4+1+1).ble (abG aa (abG aa (abG AV.p cl))).length&&(bC (ab5.underlying 3) ((abG aa (abG aa (abG AV.p cl))).getD (0+(aK k)*4+1) .aj)).snd&&true&&dy (bC (ab5.underlying 3) ((abG aa (abG aa (abG AV.p cl))).getD (0+(aK k)*4+1) .aj)).fst (sI .i64 base)&&true)&&true)
 (.must ((0+(aK k)*4+1+1).ble (abG aa (abG aa (abG aa (abG AV.p cl)))).length&&(bC (ab5.underlying 3) ((abG aa (abG aa (abG aa (abG AV.p cl)))).getD (0+(aK k)*4+1) .aj)).snd&&true&&dy (bC (ab5.underlying 3) ((abG aa (abG aa (abG aa (abG AV.p cl)))).getD (0+(aK k)*4+1) .aj)).fst (sI .i64 base)&&(dy (.p (.sc (.bool (decide (res>rn.wrap (h-base)))))) (sB false)&&true)&&true)
 (.must ((0+(aK k)*4+1+1).ble (abG aa (abG aa (abG aa (abG AV.p cl)))).length&&(bC (ab5.underlying 3) ((abG aa (abG aa (abG aa (abG AV.p cl)))).getD (0+(aK k)*4+1) .aj)).snd&&true&&dy (bC (ab5.underlying 3) ((abG aa (abG aa (abG aa (abG AV.p cl)))).getD (0+(aK k)*4+1) .aj)).fst (sI .i64 base)&&true&&true)
 (.must true
 (.test (decide (rn.wrap (h-bif true then ad3 res (rn.wrap (h-base)) else aeh res (rn.wrap (h-base)))>base))
 (.must true
 (.out (.ret (.aA [.agg [sI .i64 0,mq],sI .i64 201]) [.ob (aG.gr 185 true) (abG aa (abG aa (abG aa (abG aa (abG aa (abG aa (abG aa (abG aa (abG AV.p cs)))))))))])))
 (.must (dy (sI .i64 (rn.wrap ((↑(k+1):Int)-1))) (sI .i64 (↑k:Int))&&((aK k).ble (k+1)&&true&&true&&true&&true)&&true)
 (.must true
 (.out (.ret (.aA [.agg [sI .i64 (rn.wrap (rn.wrap (h-bif true then ad3 res (rn.wrap (h-base)) else aeh res (rn.wrap (h-base)))+res)),.ms 1 0 (aK k-0) 4 none],sI .i64 0]) [.ob (aG.gr 185 true) (abG aa (abG aa (abG aa (abG aa (abG aa (abG aa (abG aa (abG aa (abG AV.p cs))))))))),.ob (aG.gr 185 true) (abG aa (abG aa (abG aa (abG aa (abG aa (abG aa (abG aa (abG aa (abG aa (abG aa (abG AV.p cl)))))))))))])))))))))))))
theorem Bs (h:Int) (k:Nat) (cs:List PV) (cl:List PV) (op base res:Int) (dead:Bool) (n:Int):aH ab5 (QD h k cs cl op base res dead n) (UP h k cs cl op base res dead n) 1000000 109 ([AV.agg [sI rn h,AV.ms 0 0 (k+1) 4 acb]]) ([dj cs]) ZT=zc h k cs cl op base res dead n:=by kernel_rfl
def UQ (h:Int) (k:Nat) (cs:List PV) (cl:List PV) (op base res:Int) (dead:Bool) (n:Int):bD:=fy (ZL h k cs cl op base res dead n) av [] [(126,0,0),(125,0,1)] [(124,5,7),(125,0,0),(126,0,0),(126,0,1),(125,0,2)] (ZM h k cs cl op base res dead n)
def ZU:Sc:= .fin
def ze (h:Int) (k:Nat) (cs:List PV) (cl:List PV) (_op base res:Int) (dead:Bool) (_n:Int):aC:=
 (.call ⟨138,[.agg [sI .i64 h,.ms 0 0 (k+1) 4 none]],[.ob (aG.gr 185 true) (abG aa (abG aa (abG AV.p cs)))],sI .i64 0,[.ob (aG.gr 185 true) (abG aa (abG aa (abG AV.p cs)))]⟩
 (.call ⟨139,[.ms 0 0 (k+1) 4 none],[.ob (aG.gr 185 true) (abG aa (abG aa (abG aa (abG aa (abG AV.p cs)))))],.ms 1 0 (k+1) 4 none,[.ob (aG.gr 185 true) (abG aa (abG aa (abG aa (abG aa (abG AV.p cs))))),.ob (aG.gr 185 true) (abG AV.p cl)]⟩
 (.need (sI .i64 (rn.wrap ((↑(k+1):Int)-1))=sI rn (↑k:Int))
 (.must (bp (↑k:Int) (k+1)&&true&&true)
 (.must ((0+(aK k)*4+2+1).ble (abG aa (abG aa (abG AV.p cl))).length&&(bC (ab5.underlying 3) ((abG aa (abG aa (abG AV.p cl))).getD (0+(aK k)*4+2) .aj)).snd&&true&&dy (bC (ab5.underlying 3) ((abG aa (abG aa (abG AV.p cl))).getD (0+(aK k)*4+2) .aj)).fst (sI .i64 res)&&((0+(aK k)*4+1+1).ble (abG aa (abG aa (abG AV.p cl))).length&&(bC (ab5.underlying 3) ((abG aa (abG aa (abG AV.p cl))).getD (0+(aK k)*4+1) .aj)).snd&&true&&dy (bC (ab5.underlying 3) ((abG aa (abG aa (abG AV.p cl))).getD (0+(aK k)*4+1) .aj)).fst (sI .i64 base)&&true)&&true)
 (.must ((0+(aK k)*4+1+1).ble (abG aa (abG aa (abG aa (abG AV.p cl)))).length&&(bC (ab5.underlying 3) ((abG aa (abG aa (abG aa (abG AV.p cl)))).getD (0+(aK k)*4+1) .aj)).snd&&true&&dy (bC (ab5.underlying 3) ((abG aa (abG aa (abG aa (abG AV.p cl)))).getD (0+(aK k)*4+1) .aj)).fst (sI .i64 base)&&(dy (.p (.sc (.bool (decide (res>rn.wrap (h-base)))))) (sB true)&&((0+(aK k)*4+3+1).ble (abG aa (abG aa (abG aa (abG AV.p cl)))).length&&(bC (ab5.underlying 4) ((abG aa (abG aa (abG aa (abG AV.p cl)))).getD (0+(aK k)*4+3) .aj)).snd&&true&&dy (bC (ab5.underlying 4) ((abG aa (abG aa (abG aa (abG AV.p cl)))).getD (0+(aK k)*4+3) .aj)).fst (.p (.sc (.bool dead)))&&true))&&true)
 (.test (!dead)
 (.must true
 (.out (.ret (.aA [.agg [sI .i64 0,mq],sI .i64 200]) [.ob (aG.gr 185 true) (abG aa (abG aa (abG aa (abG aa (abG aa (abG aa (abG aa (abG aa (abG AV.p cs)))))))))])))
 (.must ((0+(aK k)*4+1+1).ble (abG aa (abG aa (abG aa (abG AV.p cl)))).length&&(bC (ab5.underlying 3) ((abG aa (abG aa (abG aa (abG AV.p cl)))).getD (0+(aK k)*4+1) .aj)).snd&&true&&dy (bC (ab5.underlying 3) ((abG aa (abG aa (abG aa (abG AV.p cl)))).getD (0+(aK k)*4+1) .aj)).fst (sI .i64 base)&&true&&true)
 (.must true
 (.test (decide (rn.wrap (h-bif true then ad3 res (rn.wrap (h-base)) else aeh res (rn.wrap (h-base)))>base))
 (.must true
 (.out (.ret (.aA [.agg [sI .i64 0,mq],sI .i64 201]) [.ob (aG.gr 185 true) (abG aa (abG aa (abG aa (abG aa (abG aa (abG aa (abG aa (abG aa (abG AV.p cs)))))))))])))
 (.must (dy (sI .i64 (rn.wrap ((↑(k+1):Int)-1))) (sI .i64 (↑k:Int))&&((aK k).ble (k+1)&&true&&true&&true&&true)&&true)
 (.must true
 (.out (.ret (.aA [.agg [sI .i64 (rn.wrap (rn.wrap (h-bif true then ad3 res (rn.wrap (h-base)) else aeh res (rn.wrap (h-base)))+res)),.ms 1 0 (aK k-0) 4 none],sI .i64 0]) [.ob (aG.gr 185 true) (abG aa (abG aa (abG aa (abG aa (abG aa (abG aa (abG aa (abG aa (abG AV.p cs))))))))),.ob (aG.gr 185 true) (abG aa (abG aa (abG aa (abG aa (abG aa (abG aa (abG aa (abG aa (abG aa (abG aa (abG AV.p cl)))))))))))]))))))))))))))
theorem Bt (h:Int) (k:Nat) (cs:List PV) (cl:List PV) (op base res:Int) (dead:Bool) (n:Int):aH ab5 (adP h k cs cl op base res dead n) (UQ h k cs cl op base res dead n) 1000000 109 ([AV.agg [sI rn h,AV.ms 0 0 (k+1) 4 acb]]) ([dj cs]) ZU=ze h k cs cl op base res dead n:=by kernel_rfl
theorem an.eF {rows:List (Nat×Nat×AV)} {f:FuncId} {args:List AV} {m m':Mem} {v:AV} (h:an ab5 env f args m v m'):an ab5 (va rows) f args m v m':=h.env fun _ _ q=>q
theorem C8:ab5.underlying 3=some (.int .i64):=by kernel_rfl
theorem C9:ab5.underlying 4=some .bool:=by kernel_rfl
theorem gX (k:IntKind) (a b:Int):dy (.p (.sc (.int k a))) (.p (.sc (.int k b)))=decide (a=b):=by
 simp only[dy,oL,J9,BT]
 cases k<;>rfl
theorem dX (a b:Bool):dy (.p (.sc (.bool a))) (.p (.sc (.bool b)))=dD a b:=by
 simp only[dy,oL,J9]
theorem Ho (a b:Bool):dD a b=true↔a=b:=by cases a<;>cases b<;>simp[dD]
theorem ju (l:List PV) (i:Nat) (v:PV):cZ (abG AV.p l) i [AV.p v]=abG AV.p (l.set i v):=by
 simp only[cZ,List.map_set]
theorem Ju : ∀(o:List Fr) (t:Fr),(aT (o++[t])).set (o.length*4+3) (.sc (.bool true))=aT (o++[⟨t.op,t.base,t.res,true⟩])
 |[],t=>rfl
 |f::o,t=>by
  simp only[List.cons_append,aT,List.nil_append,List.length_cons]
  rw[show(o.length+1)*4+3=(o.length*4+3)+1+1+1+1 by omega]
  simp only[List.set_cons_succ,Ju o t]
section
variable {h:Int} {o:List Fr} {t:Fr} (ex:List PV) (hok:fO h (o++[t]))
theorem Ff {h:Int} : ∀{l:List Fr} {b:Int},yZ h b l→0≤b → ∀f∈l,0≤f.base∧f.base≤h∧0≤f.res∧f.res≤1
 |[],_,_,_,_,hf=>by cases hf
 |x::r,b,hk,hb,f,hf=>by
  obtain⟨_,h2,h3,h4,h5,h6⟩:=hk
  cases hf with
  |head=>exact⟨by omega,h3,h4,h5⟩
  |tail _ hf=>exact Ff h6 (by omega) f hf
theorem iV {h:Int} {l:List Fr} (hk:fO h l) : ∀f∈l,0≤f.base∧f.base≤h∧0≤f.res∧f.res≤1:=by
 cases l with
 |nil=>exact hk.elim
 |cons x r=>
  obtain⟨_,h2,h3,h4,h5,h6,_⟩:=hk
  intro f hf
  cases hf with
  |head=>exact⟨by omega,by omega,h3,h4⟩
  |tail _ hf=>exact Ff h5 (by omega) f hf
theorem vc {h:Int} {l:List Fr} (hk:fO h l):0≤h∧h≤1073741824∧l.length≤1000:=by
 cases l with
 |nil=>exact hk.elim
 |cons x r=>exact⟨hk.2.2.2.2.2.1,hk.2.2.2.2.2.2.1,hk.2.2.2.2.2.2.2⟩
include hok in
theorem dI:(o.length+1=(o++[t]).length)∧o.length≤999∧0≤h∧h≤1073741824∧0≤t.base∧t.base≤h∧0≤t.res∧t.res≤1∧(aT (o++[t])++ex).take ((o.length+1)*4)=aT (o++[t]) ∧
  (o.length+1)*4≤(aT (o++[t])++ex).length∧(aT (o++[t])).length=(o.length+1)*4:=by
 have h1:o.length+1=(o++[t]).length:=by simp
 have h2:(aT (o++[t])).length=(o.length+1)*4:=by rw[gW,h1]
 obtain⟨n1,n2,n3⟩:=vc hok
 obtain⟨m1,m2,m3,m4⟩:=iV hok t (by simp)
 exact⟨h1,by omega,n1,n2,m1,m2,m3,m4,by rw[List.take_append_of_le_length (by omega),dk (by omega)],by rw[de];omega,h2⟩
include hok in
theorem Ac:an ab5 env 138 [.agg [sI .i64 h,.ms 0 0 (o.length+1) 4 none]] [dj (aT (o++[t])++ex)] (sI .i64 0) [dj (aT (o++[t])++ex)]:=by
 have:=E8 h (o++[t]) ex hok
 rw[de] at this
 exact this
include hok in
theorem Ad:an ab5 env 139 [.ms 0 0 (o.length+1) 4 none] [dj (aT (o++[t])++ex)] (.ms 1 0 (o.length+1) 4 none) [dj (aT (o++[t])++ex),dj (aT (o++[t]))]:=by
 obtain⟨_,f2,_,_,_,_,_,_,f9,f10,_⟩:=dI ex hok
 have:=Hl o.length (by omega) _ f10
 rw[f9] at this
 exact this
theorem fP (o:List Fr) (t:Fr):(abG AV.p (aT (o++[t]))).getD (o.length*4) .aj=sI .i64 t.op∧(abG AV.p (aT (o++[t]))).getD (o.length*4+1) .aj=sI .i64 t.base ∧
  (abG AV.p (aT (o++[t]))).getD (o.length*4+2) .aj=sI .i64 t.res∧(abG AV.p (aT (o++[t]))).getD (o.length*4+3) .aj=sB t.dead:=by
 have:=rU (l:=o++[t]) (k:=o.length) (f:=t) (by simp) []
 simpa using this
include hok in
theorem ZV {n:Int} (hn:0≤n) (hc:n≤h-t.base) :
  an ab5 env 134 [.agg [sI .i64 h,.ms 0 0 (o.length+1) 4 none],sI .i64 n] [dj (aT (o++[t])++ex)] (.aA [.agg [sI .i64 (h-n),.ms 1 0 (o.length+1) 4 none],sI .i64 0]) [dj (aT (o++[t])++ex),dj (aT (o++[t]))]:=by
 obtain⟨f1,f2,f3,f4,f5,f6,f7,f8,f9,f10,f11⟩:=dI ex hok
 obtain⟨c0,c1,c2,c3⟩:=fP o t
 have Ee:ef=70368744177664:=rfl
 refine an.gK (rows:=Mm o.length t.base t.res t.dead false) ?_
 refine af aM (LD h o.length (aT (o++[t])++ex) (aT (o++[t])) t.op t.base t.res t.dead n) ?_
 have w1:rn.wrap (((o.length+1:Nat):Int)-1)=(o.length:Int):=by rw[aO (by omega) (by omega)];omega
 have w2:rn.wrap (h-t.base)=h-t.base:=aO (by omega) (by omega)
 have w3:min n (h-t.base)=n:=by omega
 have w4:rn.wrap (h-n)=h-n:=by exact aO (by omega) (by omega)
 have g1:decide (n≥0)=true:=by simp;omega
 have g2:decide (n>h-t.base)=false:=by simp;omega
 simp only[E9,bN,aC.ok,w3,w4,g1,g2,w1,w2,aF,ju,aep,pj,aaW,c0,c1,c2,c3,C8,C9,bC,gD,isInt,isBool,az,bu,ik,cond_true,gX,dX,dD,mf,f11,←afN,←abm,oe,vd,
  xo,oR,oE,afn,false_implies,true_implies,and_true,true_and,aeU,ae2,aeT,ch,decide_eq_true_eq,bp]
 refine⟨an.eF (Ac ex hok),an.eF (Ad ex hok),?_⟩
 repeat' apply afQ
 all_goals omega
include hok in
theorem QE {n:Int} (hn:0≤n) (hc:h-t.base<n) (hd:t.dead=true) :
  an ab5 env 134 [.agg [sI .i64 h,.ms 0 0 (o.length+1) 4 none],sI .i64 n] [dj (aT (o++[t])++ex)] (.aA [.agg [sI .i64 t.base,.ms 1 0 (o.length+1) 4 none],sI .i64 0]) [dj (aT (o++[t])++ex),dj (aT (o++[t]))]:=by
 obtain⟨f1,f2,f3,f4,f5,f6,f7,f8,f9,f10,f11⟩:=dI ex hok
 obtain⟨c0,c1,c2,c3⟩:=fP o t
 have Ee:ef=70368744177664:=rfl
 refine an.gK (rows:=Mm o.length t.base t.res t.dead true) ?_
 refine af aM (Br h o.length (aT (o++[t])++ex) (aT (o++[t])) t.op t.base t.res t.dead n) ?_
 have w1:rn.wrap (((o.length+1:Nat):Int)-1)=(o.length:Int):=by rw[aO (by omega) (by omega)];omega
 have w2:rn.wrap (h-t.base)=h-t.base:=aO (by omega) (by omega)
 have w3:min n (h-t.base)=h-t.base:=by omega
 have w4:rn.wrap (h-(h-t.base))=t.base:=by rw[aO (by omega) (by omega)];omega
 have g1:decide (n≥0)=true:=by simp;omega
 have g2:decide (n>h-t.base)=true:=by simp;omega
 simp only[zb,bN,aC.ok,w3,w4,g1,g2,hd,w1,w2,aF,ju,aep,pj,aaW,c0,c1,c2,c3,C8,C9,bC,gD,isInt,isBool,az,bu,ik,cond_true,gX,dX,dD,mf,f11,←afN,←abm,oe,vd,
  xo,oR,oE,afn,false_implies,true_implies,and_true,true_and,aeU,ae2,aeT,ch,decide_eq_true_eq,bp]
 refine⟨an.eF (Ac ex hok),an.eF (Ad ex hok),?_⟩
 repeat' apply afQ
 all_goals omega
include hok in
theorem UR {n:Int} (hn:0≤n) (hc:h-t.base<n) (hd:t.dead=false) :
  an ab5 env 134 [.agg [sI .i64 h,.ms 0 0 (o.length+1) 4 none],sI .i64 n] [dj (aT (o++[t])++ex)] (.aA [.agg [sI .i64 0,.os none 0 0 []],sI .i64 200]) [dj (aT (o++[t])++ex)]:=by
 obtain⟨f1,f2,f3,f4,f5,f6,f7,f8,f9,f10,f11⟩:=dI ex hok
 obtain⟨c0,c1,c2,c3⟩:=fP o t
 have Ee:ef=70368744177664:=rfl
 refine an.gK (rows:=Mm o.length t.base t.res t.dead true) ?_
 refine af aM (Br h o.length (aT (o++[t])++ex) (aT (o++[t])) t.op t.base t.res t.dead n) ?_
 have w1:rn.wrap (((o.length+1:Nat):Int)-1)=(o.length:Int):=by rw[aO (by omega) (by omega)];omega
 have w2:rn.wrap (h-t.base)=h-t.base:=aO (by omega) (by omega)
 have g1:decide (n≥0)=true:=by simp;omega
 have g2:decide (n>h-t.base)=true:=by simp;omega
 simp only[zb,bN,aC.ok,g1,g2,hd,w1,w2,aF,ju,aep,pj,aaW,c0,c1,c2,c3,C8,C9,bC,gD,isInt,isBool,az,bu,ik,cond_true,gX,dX,dD,mf,f11,←afN,←abm,oe,vd,
  xo,oR,oE,afn,false_implies,true_implies,and_true,true_and,aeU,ae2,aeT,ch,decide_eq_true_eq,bp]
 refine⟨an.eF (Ac ex hok),an.eF (Ad ex hok),?_⟩
 repeat' apply afQ
 all_goals omega
include hok in
theorem US {n:Int} (hn:0≤n) (hc:h+n≤1073741824) :
  an ab5 env 136 [.agg [sI .i64 h,.ms 0 0 (o.length+1) 4 none],sI .i64 n] [dj (aT (o++[t])++ex)] (.aA [.agg [sI .i64 (h+n),.ms 1 0 (o.length+1) 4 none],sI .i64 0]) [dj (aT (o++[t])++ex),dj (aT (o++[t]))]:=by
 obtain⟨f1,f2,f3,f4,f5,f6,f7,f8,f9,f10,f11⟩:=dI ex hok
 obtain⟨c0,c1,c2,c3⟩:=fP o t
 have Ee:ef=70368744177664:=rfl
 refine an.gK (rows:=Mm o.length t.base t.res t.dead false) ?_
 refine af aM (LF h o.length (aT (o++[t])++ex) (aT (o++[t])) t.op t.base t.res t.dead n) ?_
 have w1:rn.wrap (((o.length+1:Nat):Int)-1)=(o.length:Int):=by rw[aO (by omega) (by omega)];omega
 have w2:rn.wrap (h-t.base)=h-t.base:=aO (by omega) (by omega)
 have w4:rn.wrap (h+n)=h+n:=by exact aO (by omega) (by omega)
 have w5:rn.wrap (1073741824-h)=1073741824-h:=by exact aO (by omega) (by omega)
 have g1:decide (n≥0)=true:=by simp;omega
 have g2:decide (n>1073741824-h)=false:=by simp;omega
 simp only[Fa,bN,aC.ok,w4,w5,g1,g2,w1,w2,aF,ju,aep,pj,aaW,c0,c1,c2,c3,C8,C9,bC,gD,isInt,isBool,az,bu,ik,cond_true,gX,dX,dD,mf,f11,←afN,←abm,oe,vd,
  xo,oR,oE,afn,false_implies,true_implies,and_true,true_and,aeU,ae2,aeT,ch,decide_eq_true_eq,bp]
 refine⟨an.eF (Ac ex hok),an.eF (Ad ex hok),?_⟩
 repeat' apply afQ
 all_goals omega
include hok in
theorem UT :
  an ab5 env 130 [.agg [sI .i64 h,.ms 0 0 (o.length+1) 4 none]] [dj (aT (o++[t])++ex)] (.aA [.agg [sI .i64 t.base,.ms 1 0 (o.length+1) 4 none],sI .i64 0]) [dj (aT (o++[t])++ex),dj (aT (o++[⟨t.op,t.base,t.res,true⟩]))]:=by
 obtain⟨f1,f2,f3,f4,f5,f6,f7,f8,f9,f10,f11⟩:=dI ex hok
 obtain⟨c0,c1,c2,c3⟩:=fP o t
 have Ee:ef=70368744177664:=rfl
 refine an.gK (rows:=Mm o.length t.base t.res t.dead false) ?_
 refine af aM (LG h o.length (aT (o++[t])++ex) (aT (o++[t])) t.op t.base t.res t.dead 0) ?_
 have w1:rn.wrap (((o.length+1:Nat):Int)-1)=(o.length:Int):=by rw[aO (by omega) (by omega)];omega
 have w2:rn.wrap (h-t.base)=h-t.base:=aO (by omega) (by omega)
 simp only[Fb,bN,aC.ok,Ju o t,w1,w2,aF,ju,aep,pj,aaW,c0,c1,c2,c3,C8,C9,bC,gD,isInt,isBool,az,bu,ik,cond_true,gX,dX,dD,mf,f11,←afN,←abm,oe,vd,
  xo,oR,oE,afn,false_implies,true_implies,and_true,true_and,aeU,ae2,aeT,ch,decide_eq_true_eq,bp]
 refine⟨an.eF (Ac ex hok),an.eF (Ad ex hok),?_⟩
 repeat' apply afQ
 all_goals omega
include hok in
theorem Fg (hc:t.res=h-t.base) :
  an ab5 env 109 [.agg [sI .i64 h,.ms 0 0 (o.length+1) 4 none]] [dj (aT (o++[t])++ex)] (.aA [.agg [sI .i64 (t.base+t.res),.ms 1 0 o.length 4 none],sI .i64 0]) [dj (aT (o++[t])++ex),dj (aT (o++[t]))]:=by
 obtain⟨f1,f2,f3,f4,f5,f6,f7,f8,f9,f10,f11⟩:=dI ex hok
 obtain⟨c0,c1,c2,c3⟩:=fP o t
 refine an.gK (rows:=Mm o.length t.base t.res t.dead false) ?_
 refine af aM (Bs h o.length (aT (o++[t])++ex) (aT (o++[t])) t.op t.base t.res t.dead 0) ?_
 have w1:rn.wrap (((o.length+1:Nat):Int)-1)=(o.length:Int):=by rw[aO (by omega) (by omega)];omega
 have w2:rn.wrap (h-t.base)=h-t.base:=aO (by omega) (by omega)
 have w3:min t.res (h-t.base)=t.res:=by omega
 have w4:rn.wrap (h-t.res)=t.base:=by rw[aO (by omega) (by omega)];omega
 have w5:rn.wrap (t.base+t.res)=t.base+t.res:=by exact aO (by omega) (by omega)
 have g3:decide (t.base>t.base)=false:=by simp
 have g2:decide (t.res>h-t.base)=false:=by simp;omega
 simp only[zc,bN,aC.ok,w3,w4,w5,g2,g3,w1,w2,aF,ju,aep,pj,aaW,c0,c1,c2,c3,C8,C9,bC,gD,isInt,isBool,az,bu,ik,cond_true,gX,dX,dD,mf,f11,
  xo,oR,oE,afn,false_implies,true_implies,and_true,true_and,aeU,ae2,aeT,ch,decide_eq_true_eq,bp]
 refine⟨an.eF (Ac ex hok),an.eF (Ad ex hok),?_⟩
 repeat' apply afQ
 all_goals omega
include hok in
theorem zf (hc:h-t.base<t.res) (hd:t.dead=true) :
  an ab5 env 109 [.agg [sI .i64 h,.ms 0 0 (o.length+1) 4 none]] [dj (aT (o++[t])++ex)] (.aA [.agg [sI .i64 (t.base+t.res),.ms 1 0 o.length 4 none],sI .i64 0]) [dj (aT (o++[t])++ex),dj (aT (o++[t]))]:=by
 obtain⟨f1,f2,f3,f4,f5,f6,f7,f8,f9,f10,f11⟩:=dI ex hok
 obtain⟨c0,c1,c2,c3⟩:=fP o t
 refine an.gK (rows:=Mm o.length t.base t.res t.dead true) ?_
 refine af aM (Bt h o.length (aT (o++[t])++ex) (aT (o++[t])) t.op t.base t.res t.dead 0) ?_
 have w1:rn.wrap (((o.length+1:Nat):Int)-1)=(o.length:Int):=by rw[aO (by omega) (by omega)];omega
 have w2:rn.wrap (h-t.base)=h-t.base:=aO (by omega) (by omega)
 have w3:min t.res (h-t.base)=h-t.base:=by omega
 have w4:rn.wrap (h-(h-t.base))=t.base:=by rw[aO (by omega) (by omega)];omega
 have w5:rn.wrap (t.base+t.res)=t.base+t.res:=by exact aO (by omega) (by omega)
 have g3:decide (t.base>t.base)=false:=by simp
 have g2:decide (t.res>h-t.base)=true:=by simp;omega
 simp only[ze,bN,aC.ok,w3,w4,w5,g2,g3,hd,w1,w2,aF,ju,aep,pj,aaW,c0,c1,c2,c3,C8,C9,bC,gD,isInt,isBool,az,bu,ik,cond_true,gX,dX,dD,mf,f11,
  xo,oR,oE,afn,false_implies,true_implies,and_true,true_and,aeU,ae2,aeT,ch,decide_eq_true_eq,bp]
 refine⟨an.eF (Ac ex hok),an.eF (Ad ex hok),?_⟩
 repeat' apply afQ
 all_goals omega
include hok in
theorem zg (hc:t.res<h-t.base) :
  an ab5 env 109 [.agg [sI .i64 h,.ms 0 0 (o.length+1) 4 none]] [dj (aT (o++[t])++ex)] (.aA [.agg [sI .i64 0,.os none 0 0 []],sI .i64 201]) [dj (aT (o++[t])++ex)]:=by
 obtain⟨f1,f2,f3,f4,f5,f6,f7,f8,f9,f10,f11⟩:=dI ex hok
 obtain⟨c0,c1,c2,c3⟩:=fP o t
 refine an.gK (rows:=Mm o.length t.base t.res t.dead false) ?_
 refine af aM (Bs h o.length (aT (o++[t])++ex) (aT (o++[t])) t.op t.base t.res t.dead 0) ?_
 have w1:rn.wrap (((o.length+1:Nat):Int)-1)=(o.length:Int):=by rw[aO (by omega) (by omega)];omega
 have w2:rn.wrap (h-t.base)=h-t.base:=aO (by omega) (by omega)
 have w3:min t.res (h-t.base)=t.res:=by omega
 have w4:rn.wrap (h-t.res)=h-t.res:=by exact aO (by omega) (by omega)
 have g3:decide (h-t.res>t.base)=true:=by simp;omega
 have g2:decide (t.res>h-t.base)=false:=by simp;omega
 simp only[zc,bN,aC.ok,w3,w4,g2,g3,w1,w2,aF,ju,aep,pj,aaW,c0,c1,c2,c3,C8,C9,bC,gD,isInt,isBool,az,bu,ik,cond_true,gX,dX,dD,mf,f11,
  xo,oR,oE,afn,false_implies,true_implies,and_true,true_and,aeU,ae2,aeT,ch,decide_eq_true_eq,bp]
 refine⟨an.eF (Ac ex hok),an.eF (Ad ex hok),?_⟩
 repeat' apply afQ
 all_goals omega
include hok in
theorem ve (hc:h-t.base<t.res) (hd:t.dead=false) :
  an ab5 env 109 [.agg [sI .i64 h,.ms 0 0 (o.length+1) 4 none]] [dj (aT (o++[t])++ex)] (.aA [.agg [sI .i64 0,.os none 0 0 []],sI .i64 200]) [dj (aT (o++[t])++ex)]:=by
 obtain⟨f1,f2,f3,f4,f5,f6,f7,f8,f9,f10,f11⟩:=dI ex hok
 obtain⟨c0,c1,c2,c3⟩:=fP o t
 refine an.gK (rows:=Mm o.length t.base t.res t.dead true) ?_
 refine af aM (Bt h o.length (aT (o++[t])++ex) (aT (o++[t])) t.op t.base t.res t.dead 0) ?_
 have w1:rn.wrap (((o.length+1:Nat):Int)-1)=(o.length:Int):=by rw[aO (by omega) (by omega)];omega
 have w2:rn.wrap (h-t.base)=h-t.base:=aO (by omega) (by omega)
 have g2:decide (t.res>h-t.base)=true:=by simp;omega
 simp only[ze,bN,aC.ok,g2,hd,w1,w2,aF,ju,aep,pj,aaW,c0,c1,c2,c3,C8,C9,bC,gD,isInt,isBool,az,bu,ik,cond_true,gX,dX,dD,mf,f11,
  xo,oR,oE,afn,false_implies,true_implies,and_true,true_and,aeU,ae2,aeT,ch,decide_eq_true_eq,bp]
 refine⟨an.eF (Ac ex hok),an.eF (Ad ex hok),?_⟩
 repeat' apply afQ
 all_goals omega
include hok in
theorem QF {op n:Int} (ho:op=2∨op=3∨op=4∨op=5) (hn:0≤n) (hn1:n≤1) (hlt:o.length+1<1000) :
  an ab5 env 143 [.agg [sI .i64 h,.ms 0 0 (o.length+1) 4 none],sI .i64 op,sI .i64 n] [dj (aT (o++[t])++ex)] (.aA [.agg [sI .i64 h,.ms 1 0 (o.length+2) 4 none],sI .i64 0]) [dj (aT (o++[t])++ex),dj (aT (o++[t]++[⟨op,h,n,false⟩]))]:=by
 obtain⟨f1,f2,f3,f4,f5,f6,f7,f8,f9,f10,f11⟩:=dI ex hok
 have Ee:ef=70368744177664:=rfl
 have MO:aT (o++[t]++[⟨op,h,n,false⟩])=aT (o++[t])++frC op h n false:=by rw[mI];rfl
 have Wu:(aT (o++[t])).take ((o.length+1)*4)=aT (o++[t]):=dk (by omega)
 have tur:an ab5 env 124 [.agg [sI .i64 h,.ms 0 0 (o.length+1) 4 none],sB true,.fn (.func 151) [] [.mp 1 0,.mp 2 0]] [dj (aT (o++[t])++ex),.pc [.sc (.int .i64 op)],.pc [.sc (.int .i64 n)]]
   (.aA [.agg [sI .i64 h,.ms 3 0 (o.length+2) 4 none],sI .i64 0]) [dj (aT (o++[t])++ex),.pc [.sc (.int .i64 op)],.pc [.sc (.int .i64 n)],dj (aT (o++[t]++[⟨op,h,n,false⟩]))]:=by
  refine an.gK (rows:=Mm o.length t.base t.res t.dead false) ?_
  refine af aM (LH h o.length (aT (o++[t])++ex) (aT (o++[t])) op t.base t.res t.dead n) ?_
  have w1:rn.wrap (((o.length+1:Nat):Int)-1)=(o.length:Int):=by rw[aO (by omega) (by omega)];omega
  have g1:decide (((o.length+1:Nat):Int)≥1000)=false:=by simp;omega
  have hm:abG AV.p (aT (o++[t]))++[AV.p (PV.sc (sd rn op)),AV.p (PV.sc (sd rn h)),AV.p (PV.sc (sd rn n)),AV.p (PV.sc (Value.bool false))]=abG AV.p (aT (o++[t]++[⟨op,h,n,false⟩])):=by rw[MO,abm];rfl
  simp only[Fc,bN,aC.ok,w1,g1,aF,←afN,Wu,hm,mf,f11,oE,false_implies,true_implies,and_true,true_and,aeU,aeT,ch,decide_eq_true_eq,bp]
  refine⟨an.eF (Ac ex hok),an.eF (Ad ex hok),?_⟩
  repeat' apply afQ
  all_goals omega
 refine an.gK (rows:=[(143,13,sB true),(143,17,sB true)]) ?_
 refine af aM (LI h o.length (aT (o++[t])++ex) (aT (o++[t]++[⟨op,h,n,false⟩])) op t.base t.res t.dead n) ?_
 have g1:decide (n≥0)=true:=by simp;omega
 have g2:decide (n≤1)=true:=by simp;omega
 simp only[Fe,aC.ok,g1,g2,aF,dX,dD,and_true,true_and,aeU]
 exact⟨an.eF (Bq ho),an.eF tur⟩
end
end Go.Proofs.YtjfgfhaoeicpdaaGreatDoor.N
end
