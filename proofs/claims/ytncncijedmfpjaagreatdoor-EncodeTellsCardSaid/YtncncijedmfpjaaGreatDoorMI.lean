import Derived.Test.YtncncijedmfpjaaGreatDoorMH
open Nat renaming beq→ba,lt_or_ge→ft,reduceAdd→aeV
open ByteArray renaming mk→afC
open Go.Proofs.Tryz renaming prog→ae
open Go.IntKind renaming i64→re,u32→aeG
open List renaming getElem?_eq_getElem→da,drop_eq_getElem_cons→agj,range'→ui,drop_eq_nil_of_le→agp,drop_zero→aeI,getElem_mem→en,getD_eq_getElem?_getD→de
open And renaming intro→ags
open Bool renaming eq_iff_iff→ahx,not_eq_true'→iv,or_eq_true→iu,false_and→ajl,and_false→ajn,not_eq_false'→ajo
open Int renaming toNat_natCast→afm
noncomputable section
section
namespace Go.Proofs.YtncncijedmfpjaaGreatDoor.N
open Go Go.Am
def akI (f:FuncId) (_:List AV) (_:Mem):Option (AV×Mem):=cond (ba f 149) (some (.agg (Py.map fun s=> .p (.sc (.string s))),[])) none
def akJ (op:Int):FuncId→Nat→Nat→Option (AV→AV):=bJ [(136,4,2,.p (.sc (.string (Py.getD op.toNat ⟨#[]⟩))))]
def akK (_op:Int) (n:Int) (st:Bool) (f:FuncId) (_:List AV) (_:Mem):Option (AV×Mem):=cond (ba f 139) (some (.aK [sI .u32 n,sB st],[])) none
def akL (_op _r _a _b _nn:Int) (_tg:List Int) (_ll _le:List Ins) (s:ByteArray) (u1 u2 u3 u4 u5 u6:Bool) (f:FuncId) (_:List AV) (_:Mem):Option (AV×Mem):=cond (ba f 136) (some (.p (.sc (.string s)),[])) (cond (ba f 135) (some (.agg [sB u1,sB u2,sB u3,sB u4,sB u5,sB u6],[])) none)
def ZF (op:Int):bA:=dY akI aC [] [(136,2,3),(136,0,0)] [(136,4,2)] (akJ op)
def afJ:Sc:=(.fork (.lit .fin) .fin)
def J9 (op:Int):aA:=
 (.test (decide (op<0))
 (.out (.ret (.p (.sc (.string (afC #[])))) []))
 (.test (decide (op≥256))
 (.out (.ret (.p (.sc (.string (afC #[])))) []))
 (.call ⟨149,[],[],.agg (Py.map fun s=> .p (.sc (.string s))),[]⟩
 (.must (aP op 256&&(op.toNat*1).blt 256&&true)
 (.need ((Py.map fun s=>AV.p (PV.sc (.string s))).getD (op.toNat*1) AV.bC=AV.p (PV.sc (Value.string (Py.getD op.toNat (afC #[])))))
 (.out (.ret (.p (.sc (.string (Py.getD op.toNat (afC #[]))))) [])))))))
theorem Pz (op:Int):aI ae env (ZF op) 1000000 136 ([sI re op]) ([]) afJ=J9 op:=by kernel_rfl
def ZG:bA:=aM aE aC [] [(139,0,0),(139,0,1),(139,0,2),(139,0,4),(139,0,3),(139,0,5),(139,0,7),(139,0,6)] []
def afK:Sc:=(.fork (.yes .fin) (.fork .fin (.fork (.yes .fin) (.fork (.yes .fin) (.fork .fin (.fork (.yes .fin) (.fork (.yes .fin) .fin)))))))
def Ka (op:Int):aA:=
 (.test (op==40)
 (.must (op==40)
 (.out (.ret (.aK [sI .u32 2,sB true]) [])))
 (.test (op==54)
 (.out (.ret (.aK [sI .u32 2,sB true]) []))
 (.test (op==46)
 (.must (op==46)
 (.out (.ret (.aK [sI .u32 1,sB true]) [])))
 (.test (op==47)
 (.must (op==47)
 (.out (.ret (.aK [sI .u32 1,sB true]) [])))
 (.test (op==59)
 (.out (.ret (.aK [sI .u32 1,sB true]) []))
 (.test (op==44)
 (.must (op==44)
 (.out (.ret (.aK [sI .u32 0,sB true]) [])))
 (.test (op==45)
 (.must (op==45)
 (.out (.ret (.aK [sI .u32 0,sB true]) [])))
 (.test (op==58)
 (.out (.ret (.aK [sI .u32 0,sB true]) []))
 (.out (.ret (.aK [sI .u32 0,sB false]) []))))))))))
theorem PA (op:Int):aI ae env ZG 1000000 139 ([sI re op]) ([]) afK=Ka op:=by kernel_rfl
def ZH:bA:=aM aE aC [] [(145,0,0),(145,0,1),(145,0,2),(145,0,4),(145,0,3),(145,0,5),(145,0,7),(145,0,6)] []
def afL:Sc:=(.fork (.yes .fin) (.fork .fin (.fork (.yes .fin) (.fork (.yes .fin) (.fork .fin (.fork (.yes .fin) (.fork (.yes .fin) .fin)))))))
def Kb (op:Int):aA:=
 (.test (op==40)
 (.must (op==40)
 (.out (.ret (.aK [sI .u32 2,sB true]) [])))
 (.test (op==54)
 (.out (.ret (.aK [sI .u32 2,sB true]) []))
 (.test (op==46)
 (.must (op==46)
 (.out (.ret (.aK [sI .u32 1,sB true]) [])))
 (.test (op==47)
 (.must (op==47)
 (.out (.ret (.aK [sI .u32 1,sB true]) [])))
 (.test (op==59)
 (.out (.ret (.aK [sI .u32 1,sB true]) []))
 (.test (op==44)
 (.must (op==44)
 (.out (.ret (.aK [sI .u32 0,sB true]) [])))
 (.test (op==45)
 (.must (op==45)
 (.out (.ret (.aK [sI .u32 0,sB true]) [])))
 (.test (op==58)
 (.out (.ret (.aK [sI .u32 0,sB true]) []))
 (.out (.ret (.aK [sI .u32 0,sB false]) []))))))))))
theorem PB (op:Int):aI ae env ZH 1000000 145 ([sI re op]) ([]) afL=Kb op:=by kernel_rfl
def ZI:bA:=aM aE aC [] [(146,2,3),(146,2,7)] []
def afM:Sc:=(.fork (.lit .fin) .fin)
def Kc (op:Int):aA:=
 (.test (op==2)
 gj
 (.test (op==3)
 gj
 (.out (.ret (.p (.sc (.bool (op==4)))) []))))
theorem PC (op:Int):aI ae env ZI 1000000 146 ([sI re op]) ([]) afM=Kc op:=by kernel_rfl
def ZJ:bA:=aM aE aC [] [(147,2,3),(147,2,7),(147,2,11),(147,2,15),(147,2,18)] []
def afN:Sc:=(.fork (.lit (.lit (.lit .fin))) (.fork (.lit (.lit .fin)) (.fork (.lit .fin) .fin)))
def Kd (op:Int):aA:=
 (.test (op==12)
 gj
 (.test (op==13)
 gj
 (.test (op==16)
 gj
 (.test (op==17)
 gj
 (.test (decide (op≥32))
 (.out (.ret (.p (.sc (.bool (decide (op≤36))))) []))
 (.out (.ret (sB false) [])))))))
theorem PD (op:Int):aI ae env ZJ 1000000 147 ([sI re op]) ([]) afN=Kd op:=by kernel_rfl
def ZK (op n:Int) (st:Bool):bA:=aM (akK op n st) aC [] [(135,0,0),(135,0,1),(135,0,2),(135,0,3),(135,0,4),(135,0,12),(135,0,5),(135,0,6),(135,0,7),(135,0,8),(135,0,9),(135,0,10),(135,0,11),(135,0,13),(135,0,14)] []
def afO:Sc:=(.fork .fin (.fork (.yes .fin) (.fork .fin (.fork .fin (.fork (.yes .fin) (.fork (.yes .fin) (.fork (.yes .fin) (.fork (.yes .fin) (.fork (.yes .fin) (.fork (.yes .fin) (.fork (.yes .fin) (.fork (.yes .fin) .fin))))))))))))
def fD:aA:=
 (.out (.ret (.agg [sB false,sB false,sB true,sB false,sB false,sB false]) []))
def Ke (op n:Int) (st:Bool):aA:=
 (.call ⟨139,[sI .i64 op],[],.aK [sI .u32 n,.p (.sc (.bool st))],[]⟩
 (.test (st)
 (.out (.ret (.agg [sB false,sB false,sB true,sB true,sB false,sB false]) []))
 (.test (op==2)
 (.must (op==2)
 (.out (.ret (.agg [sB true,sB false,sB false,sB false,sB false,sB false]) [])))
 (.test (op==3)
 (.out (.ret (.agg [sB true,sB false,sB false,sB false,sB false,sB false]) []))
 (.test (op==4)
 (.out (.ret (.agg [sB true,sB true,sB false,sB false,sB false,sB false]) []))
 (.test (op==12)
 (.must (op==12)
 (fD))
 (.test (op==13)
 (.must (op==13)
 (fD))
 (.test (op==16)
 (.must (op==16)
 (fD))
 (.test (op==17)
 (.must (op==17)
 (fD))
 (.test (op==32)
 (.must (op==32)
 (fD))
 (.test (op==33)
 (.must (op==33)
 (fD))
 (.test (op==34)
 (.must (op==34)
 (fD))
 (.test (op==35)
 (.must (op==35)
 (fD))
 (.test (op==36)
 (fD)
 (.test (op==14)
 (.out (.ret (.agg [sB false,sB false,sB true,sB false,sB false,sB true]) []))
 (.test (op==65)
 (.out (.ret (.agg [sB false,sB false,sB false,sB false,sB true,sB false]) []))
 (.out (.ret (.agg [sB false,sB false,sB false,sB false,sB false,sB false]) []))))))))))))))))))
theorem PE (op n:Int) (st:Bool):aI ae env (ZK op n st) 1000000 135 ([sI re op]) ([]) afO=Ke op n st:=by kernel_rfl
def ZL (op r a b nn:Int) (tg:List Int) (ll:List Ins) (le:List Ins) (s:ByteArray) (u1:Bool) (u2:Bool) (u3:Bool) (u4:Bool) (u5:Bool) (u6:Bool):bA:=aM (akL op r a b nn tg ll le s u1 u2 u3 u4 u5 u6) aC [] [(125,0,0),(125,0,3),(125,4,4),(125,0,1),(125,5,4),(125,5,8),(125,0,2),(125,6,4),(125,8,3),(125,8,11),(125,8,20),(125,8,29),(125,8,26),(125,8,17),(125,8,8)] []
def afP:Sc:=(.fork (.yes .fin) (.fork (.lit (.lit .fin)) (.fork (.yes .fin) (.fork (.fork (.lit (.lit .fin)) (.fork (.yes .fin) (.fork (.fork .fin (.fork (.lit (.fork (.lit (.fork (.lit .fin) .fin)) (.fork (.fork (.lit .fin) .fin) (.lit .fin)))) (.fork (.fork (.lit (.fork (.lit .fin) .fin)) (.fork (.fork (.lit .fin) .fin) (.lit .fin))) (.lit (.lit .fin))))) (.lit (.fork (.lit (.fork (.lit (.fork (.lit .fin) .fin)) (.fork (.fork (.lit .fin) .fin) (.lit .fin)))) (.fork (.fork (.lit (.fork (.lit .fin) .fin)) (.fork (.fork (.lit .fin) .fin) (.lit .fin))) (.lit (.lit .fin)))))))) (.lit (.fork (.fork .fin (.fork (.lit (.fork (.lit (.fork (.lit .fin) .fin)) (.fork (.fork (.lit .fin) .fin) (.lit .fin)))) (.fork (.fork (.lit (.fork (.lit .fin) .fin)) (.fork (.fork (.lit .fin) .fin) (.lit .fin))) (.lit (.lit .fin))))) (.lit (.fork (.lit (.fork (.lit (.fork (.lit .fin) .fin)) (.fork (.fork (.lit .fin) .fin) (.lit .fin)))) (.fork (.fork (.lit (.fork (.lit .fin) .fin)) (.fork (.fork (.lit .fin) .fin) (.lit .fin))) (.lit (.lit .fin)))))))))))
def uc (b nn:Int) (tg:List Int) (u4:Bool) (u5:Bool) (u6:Bool):aA:=
 (.test (u4) (.test (u5) (.test (u6) gj (.out (.ret (.p (.sc (.bool ((↑tg.length:Int)==0)))) []))) (.test (nn==0) (.test (u6) gj (.out (.ret (.p (.sc (.bool ((↑tg.length:Int)==0)))) []))) (.out (.ret (sB false) [])))) (.test (b==0) (.test (u5) (.test (u6) gj (.out (.ret (.p (.sc (.bool ((↑tg.length:Int)==0)))) []))) (.test (nn==0) (.test (u6) gj (.out (.ret (.p (.sc (.bool ((↑tg.length:Int)==0)))) []))) (.out (.ret (sB false) [])))) (.out (.ret (sB false) []))))
def gk:aA:=
 (.out (.ret (sB false) []))
def mz (a b nn:Int) (tg:List Int) (u3:Bool) (u4:Bool) (u5:Bool) (u6:Bool):aA:=
 (.test (u3) (uc b nn tg u4 u5 u6) (.test (a==0) (uc b nn tg u4 u5 u6) (gk)))
def Kf (op r a b nn:Int) (tg:List Int) (ll:List Ins) (le:List Ins) (s:ByteArray) (u1:Bool) (u2:Bool) (u3:Bool) (u4:Bool) (u5:Bool) (u6:Bool):aA:=
 (.call ⟨135,[sI .i64 op],[],.agg [.p (.sc (.bool u1)),.p (.sc (.bool u2)),.p (.sc (.bool u3)),.p (.sc (.bool u4)),.p (.sc (.bool u5)),.p (.sc (.bool u6))],[]⟩
 (.call ⟨136,[sI .i64 op],[],.p (.sc (.string s)),[]⟩
 (.test (s.data.toList==(afC #[]).data.toList)
 (.must (s.data.toList==(afC #[]).data.toList)
 (gk))
 (.test (decide (r<0))
 (gk)
 (.test (decide (r>1))
 (.must (decide (r>1))
 (gk))
 (.test (!u1)
 (.test (r != 0)
 (gk)
 (.test (decide ((↑ll.length:Int)>0))
 (.must (decide ((↑ll.length:Int)>0))
 (gk))
 (.test (!u2)
 (.test (decide ((↑le.length:Int)>0))
 (gk)
 (mz a b nn tg u3 u4 u5 u6))
 (mz a b nn tg u3 u4 u5 u6))))
 (.test (!u2)
 (.test (decide ((↑le.length:Int)>0))
 (gk)
 (mz a b nn tg u3 u4 u5 u6))
 (mz a b nn tg u3 u4 u5 u6))))))))
theorem PF (op r a b nn:Int) (tg:List Int) (ll:List Ins) (le:List Ins) (s:ByteArray) (u1:Bool) (u2:Bool) (u3:Bool) (u4:Bool) (u5:Bool) (u6:Bool):aI ae env (ZL op r a b nn tg ll le s u1 u2 u3 u4 u5 u6) 1000000 125 ([nI op r a b nn tg ll le]) ([]) afP=Kf op r a b nn tg ll le s u1 u2 u3 u4 u5 u6:=by kernel_rfl
def nm (op:Int):ByteArray:=if op<0∨256≤op then⟨#[]⟩ else Py.getD op.toNat ⟨#[]⟩
theorem L5 (op:Int):az ae env 136 [sI .i64 op] [] (.p (.sc (.string (nm op)))) []:=by
 refine aa aH (Pz op) ?_
 simp only[J9,aA.ok,decide_eq_true_eq,decide_eq_false_iff_not]
 have hlen:(Py.map fun s=>(AV.p (PV.sc (.string s)))).length=256:=by kernel_rfl
 refine⟨fun h=> ?_,fun h=>⟨fun h2=> ?_,fun h2=>⟨ZE,?_,?_,?_⟩⟩⟩
 · rw[nm,if_pos (.inl h)]
 · rw[nm,if_pos (.inr h2)]
 · simp[aP];omega
 · have hl:op.toNat<(Py.map fun s=>(AV.p (PV.sc (.string s)))).length:=by rw[hlen];omega
   rw[Nat.mul_one,de,da hl,Option.getD_some,List.getElem_map,de,da (by simpa using hl),Option.getD_some]
 · rw[nm,if_neg (by omega)]
def iB (op:Int):Bool:=decide (op=40∨op=44∨op=45∨op=46∨op=47∨op=54∨op=58∨op=59)
def qP (op:Int):Int:=if op=40∨op=54 then 2 else if op=46∨op=47∨op=59 then 1 else 0
def kT (op:Int):Bool:=decide (op=2∨op=3∨op=4)
def lQ (op:Int):Bool:=decide (op=12∨op=13∨op=16∨op=17∨(32≤op∧op≤36))
theorem xX (op:Int):az ae env 139 [sI .i64 op] [] (.aK [sI .u32 (qP op),sB (iB op)]) []:=by
 refine aa aH (PA op) ?_
 simp only[Ka,aA.ok,beq_iff_eq,beq_eq_false_iff_ne]
 repeat' first | apply ags | (intro h)
 all_goals first | assumption | (simp only[qP,iB];simp_all;done)
theorem dO (op:Int):az ae env 145 [sI .i64 op] [] (.aK [sI .u32 (qP op),sB (iB op)]) []:=by
 refine aa aH (PB op) ?_
 simp only[Kb,aA.ok,beq_iff_eq,beq_eq_false_iff_ne]
 repeat' first | apply ags | (intro h)
 all_goals first | assumption | (simp only[qP,iB];simp_all;done)
theorem eA (op:Int):az ae env 146 [sI .i64 op] [] (sB (kT op)) []:=by
 refine aa aH (PC op) ?_
 simp only[Kc,aV,aA.ok,beq_iff_eq,beq_eq_false_iff_ne]
 repeat' first | apply ags | (intro h)
 all_goals (simp only[kT];congr 4;rw[ahx];simp only[beq_iff_eq,decide_eq_true_eq,true_iff];omega)
theorem fU (op:Int):az ae env 147 [sI .i64 op] [] (sB (lQ op)) []:=by
 refine aa aH (PD op) ?_
 simp only[Kd,aV,aA.ok,beq_iff_eq,beq_eq_false_iff_ne,decide_eq_true_eq,decide_eq_false_iff_not]
 repeat' first | apply ags | (intro h)
 all_goals (simp only[lQ];congr 4;simp only[true_eq_decide_iff,false_eq_decide_iff,decide_eq_decide];omega)
def afQ (op:Int):AV:= .agg [sB (kT op),sB (decide (op=4)),sB (iB op||lQ op||decide (op=14)),sB (iB op),sB (decide (op=65)),sB (decide (op=14))]
theorem ZM {op:Int} {x1 x2 x3 x4 x5 x6:Bool} (h1:x1=true↔kT op=true) (h2:x2=true↔op=4) (h3:x3=true↔iB op=true∨lQ op=true∨op=14) (h4:x4=true↔iB op=true) (h5:x5=true↔op=65) (h6:x6=true↔op=14) :
  Out.ret (.agg [.p (.sc (.bool x1)),.p (.sc (.bool x2)),.p (.sc (.bool x3)),.p (.sc (.bool x4)),.p (.sc (.bool x5)),.p (.sc (.bool x6))]) []=Out.ret (afQ op) []:=by
 obtain rfl:x1=kT op:=ahx.2 h1
 obtain rfl:x2=decide (op=4):=ahx.2 (by rw[h2,decide_eq_true_eq])
 obtain rfl:x3=(iB op||lQ op||decide (op=14)):=ahx.2 (by rw[h3,iu,iu,decide_eq_true_eq,or_assoc])
 obtain rfl:x4=iB op:=ahx.2 h4
 obtain rfl:x5=decide (op=65):=ahx.2 (by rw[h5,decide_eq_true_eq])
 obtain rfl:x6=decide (op=14):=ahx.2 (by rw[h6,decide_eq_true_eq])
 rfl
theorem sr {op:Int}:iB op=true↔(op=40∨op=44∨op=45∨op=46∨op=47∨op=54∨op=58∨op=59):=decide_eq_true_iff
theorem jv {op:Int}:kT op=true↔(op=2∨op=3∨op=4):=decide_eq_true_iff
theorem FC {op:Int}:lQ op=true↔(op=12∨op=13∨op=16∨op=17∨(32≤op∧op≤36)):=decide_eq_true_iff
set_option maxHeartbeats 2000000 in
theorem L6 (op:Int):az ae env 135 [sI .i64 op] [] (afQ op) []:=by
 refine aa aH (PE op (qP op) (iB op)) ?_
 simp only[Ke,fD,aA.ok,beq_iff_eq,beq_eq_false_iff_ne]
 refine⟨xX op,?_⟩
 rw[←Bool.not_eq_true,sr]
 repeat' first | apply ags | (intro h)
 all_goals first | assumption | (refine ZM ?_ ?_ ?_ ?_ ?_ ?_<;>simp only[sr,jv,FC,true_iff,Bool.false_eq_true,false_iff]<;>omega)
def ud (e0 u1 u2 u3 u4 u5 u6 e1 e2 e3 e4 e5 e6 e7 e8 e9:Bool):Bool:= !e0&&(!e1&&(!e2&&((u1 || !(e3||e4))&&((u2 || !e5)&&((u3||e6)&&((u4||e7)&&((u5||e8)&&(u6||e9))))))))
set_option maxHeartbeats 4000000 in
theorem ZN (op r a b nn:Int) (tg:List Int) (ll le:List Ins) (s:ByteArray) (u1 u2 u3 u4 u5 u6:Bool) (h1:az ae env 135 [sI .i64 op] [] (.agg [sB u1,sB u2,sB u3,sB u4,sB u5,sB u6]) []) (h2:az ae env 136 [sI .i64 op] [] (.p (.sc (.string s))) []) :
  az ae env 125 [nI op r a b nn tg ll le] [] (sB (ud (s.data.toList==(afC #[]).data.toList) u1 u2 u3 u4 u5 u6 (decide (r<0)) (decide (r>1)) (r != 0) (decide ((ll.length:Int)>0)) (decide ((le.length:Int)>0)) (a==0) (b==0) (nn==0) ((tg.length:Int)==0))) []:=by
 refine aa aH (PF op r a b nn tg ll le s u1 u2 u3 u4 u5 u6) ?_
 simp only[Kf,uc,gk,mz,aV,aA.ok]
 refine⟨h1,h2,?_⟩
 generalize (s.data.toList==(afC #[]).data.toList)=e0
 generalize decide (r<0)=e1
 generalize decide (r>1)=e2
 generalize (r != 0)=e3
 generalize decide ((ll.length:Int)>0)=e4
 generalize decide ((le.length:Int)>0)=e5
 generalize (a==0)=e6
 generalize (b==0)=e7
 generalize (nn==0)=e8
 generalize ((tg.length:Int)==0)=e9
 cases e0
 case true=>simp[ud]
 cases e1
 case true=>simp[ud]
 cases e2
 case true=>simp[ud]
 cases u1<;>cases e3<;>cases e4<;>(try (simp[ud];done))<;>cases u2<;>cases e5<;>(try (simp[ud];done))<;>cases u3<;>cases e6<;>(try (simp[ud];done))<;>cases u4<;>cases e7<;>(try (simp[ud];done))<;>cases u5<;>cases e8<;>(try (simp[ud];done))<;>cases u6<;>simp[ud]
end Go.Proofs.YtncncijedmfpjaaGreatDoor.N
end
section
namespace Go.Proofs.YtncncijedmfpjaaGreatDoor.N
open Go Go.Am
def akM (_op _r _a _b _nn:Int) (_tg:List Int) (_ll _le:List Ins) (s:ByteArray) (n:Int) (st li wh:Bool) (f:FuncId) (_:List AV) (_:Mem):Option (AV×Mem):=cond (ba f 152) (some (.p (.sc (.string s)),[])) (cond (ba f 145) (some (.aK [sI .u32 n,sB st],[])) (cond (ba f 146) (some (sB li,[])) (cond (ba f 147) (some (sB wh,[])) none)))
def ZO (op r a b nn:Int) (tg:List Int) (ll:List Ins) (le:List Ins) (s:ByteArray) (n:Int) (st:Bool) (li:Bool) (wh:Bool):bA:=aM (akM op r a b nn tg ll le s n st li wh) aC [] [(144,3,5),(144,3,10),(144,3,15),(144,3,19),(144,3,26),(144,3,31),(144,3,38),(144,3,43),(144,0,0),(144,5,5),(144,5,10),(144,5,14),(144,5,20),(144,5,24),(144,0,1),(144,7,4),(144,7,7),(144,7,12)] []
def afR:Sc:=(.fork (.lit (.lit (.lit (.lit (.lit .fin))))) (.fork (.lit (.lit (.lit (.lit .fin)))) (.fork (.lit (.lit (.lit .fin))) (.fork (.fork (.lit (.lit .fin)) (.fork (.no (.fork (.fork .fin (.fork (.yes (.lit (.lit .fin))) (.lit (.fork (.yes (.lit .fin)) (.lit (.fork (.fork .fin (.fork (.lit (.lit .fin)) (.yes (.lit .fin)))) (.lit (.fork (.lit (.lit .fin)) (.fork (.lit .fin) .fin))))))))) (.lit (.fork (.fork (.lit (.lit .fin)) (.fork (.yes (.lit .fin)) (.lit (.fork (.fork .fin (.fork (.lit (.lit .fin)) (.yes (.lit .fin)))) (.lit (.fork (.lit (.lit .fin)) (.fork (.lit .fin) .fin))))))) (.lit (.fork (.fork (.lit .fin) (.fork (.fork .fin (.fork (.lit (.lit .fin)) (.yes (.lit .fin)))) (.lit (.fork (.lit (.lit .fin)) (.fork (.lit .fin) .fin))))) (.lit (.fork (.fork .fin (.fork (.lit (.lit .fin)) (.yes (.lit .fin)))) (.lit (.fork (.lit (.lit .fin)) (.fork (.lit .fin) .fin))))))))))) (.lit (.fork (.fork .fin (.fork (.yes (.lit (.lit .fin))) (.lit (.fork (.yes (.lit .fin)) (.lit (.fork (.fork .fin (.fork (.lit (.lit .fin)) (.yes (.lit .fin)))) (.lit (.fork (.lit (.lit .fin)) (.fork (.lit .fin) .fin))))))))) (.lit (.fork (.fork (.lit (.lit .fin)) (.fork (.yes (.lit .fin)) (.lit (.fork (.fork .fin (.fork (.lit (.lit .fin)) (.yes (.lit .fin)))) (.lit (.fork (.lit (.lit .fin)) (.fork (.lit .fin) .fin))))))) (.lit (.fork (.fork (.lit .fin) (.fork (.fork .fin (.fork (.lit (.lit .fin)) (.yes (.lit .fin)))) (.lit (.fork (.lit (.lit .fin)) (.fork (.lit .fin) .fin))))) (.lit (.fork (.fork .fin (.fork (.lit (.lit .fin)) (.yes (.lit .fin)))) (.lit (.fork (.lit (.lit .fin)) (.fork (.lit .fin) .fin))))))))))))) (.lit (.fork (.fork (.lit .fin) (.fork (.fork .fin (.fork (.yes (.lit (.lit .fin))) (.lit (.fork (.yes (.lit .fin)) (.lit (.fork (.fork .fin (.fork (.lit (.lit .fin)) (.yes (.lit .fin)))) (.lit (.fork (.lit (.lit .fin)) (.fork (.lit .fin) .fin))))))))) (.lit (.fork (.fork (.lit (.lit .fin)) (.fork (.yes (.lit .fin)) (.lit (.fork (.fork .fin (.fork (.lit (.lit .fin)) (.yes (.lit .fin)))) (.lit (.fork (.lit (.lit .fin)) (.fork (.lit .fin) .fin))))))) (.lit (.fork (.fork (.lit .fin) (.fork (.fork .fin (.fork (.lit (.lit .fin)) (.yes (.lit .fin)))) (.lit (.fork (.lit (.lit .fin)) (.fork (.lit .fin) .fin))))) (.lit (.fork (.fork .fin (.fork (.lit (.lit .fin)) (.yes (.lit .fin)))) (.lit (.fork (.lit (.lit .fin)) (.fork (.lit .fin) .fin))))))))))) (.lit (.fork (.fork .fin (.fork (.yes (.lit (.lit .fin))) (.lit (.fork (.yes (.lit .fin)) (.lit (.fork (.fork .fin (.fork (.lit (.lit .fin)) (.yes (.lit .fin)))) (.lit (.fork (.lit (.lit .fin)) (.fork (.lit .fin) .fin))))))))) (.lit (.fork (.fork (.lit (.lit .fin)) (.fork (.yes (.lit .fin)) (.lit (.fork (.fork .fin (.fork (.lit (.lit .fin)) (.yes (.lit .fin)))) (.lit (.fork (.lit (.lit .fin)) (.fork (.lit .fin) .fin))))))) (.lit (.fork (.fork (.lit .fin) (.fork (.fork .fin (.fork (.lit (.lit .fin)) (.yes (.lit .fin)))) (.lit (.fork (.lit (.lit .fin)) (.fork (.lit .fin) .fin))))) (.lit (.fork (.fork .fin (.fork (.lit (.lit .fin)) (.yes (.lit .fin)))) (.lit (.fork (.lit (.lit .fin)) (.fork (.lit .fin) .fin)))))))))))))))))
def mA (op a b nn:Int) (tg:List Int) (le:List Ins) (st:Bool) (wh:Bool):aA:=
 (.test (decide ((↑le.length:Int)>0)) (.test (op != 4) (.out (.ret (sB false) [])) (.test (decide ((↑tg.length:Int)>0)) (.must (op != 14) (.out (.ret (sB false) []))) (.test (nn != 0) (.must (op != 65) (.out (.ret (sB false) []))) (.test (b != 0) (.test (!st) (.out (.ret (sB false) [])) (.test (a==0) gj (.must (st) gj))) (.test (a==0) gj (.test (st) gj (.call ⟨147,[sI .i64 op],[],.p (.sc (.bool wh)),[]⟩ (.test (wh) gj (.out (.ret (.p (.sc (.bool (op==14)))) [])))))))))) (.test (decide ((↑tg.length:Int)>0)) (.test (op != 14) (.out (.ret (sB false) [])) (.test (nn != 0) (.must (op != 65) (.out (.ret (sB false) []))) (.test (b != 0) (.test (!st) (.out (.ret (sB false) [])) (.test (a==0) gj (.must (st) gj))) (.test (a==0) gj (.test (st) gj (.call ⟨147,[sI .i64 op],[],.p (.sc (.bool wh)),[]⟩ (.test (wh) gj (.out (.ret (.p (.sc (.bool (op==14)))) []))))))))) (.test (nn != 0) (.test (op != 65) (.out (.ret (sB false) [])) (.test (b != 0) (.test (!st) (.out (.ret (sB false) [])) (.test (a==0) gj (.must (st) gj))) (.test (a==0) gj (.test (st) gj (.call ⟨147,[sI .i64 op],[],.p (.sc (.bool wh)),[]⟩ (.test (wh) gj (.out (.ret (.p (.sc (.bool (op==14)))) [])))))))) (.test (b != 0) (.test (!st) (.out (.ret (sB false) [])) (.test (a==0) gj (.must (st) gj))) (.test (a==0) gj (.test (st) gj (.call ⟨147,[sI .i64 op],[],.p (.sc (.bool wh)),[]⟩ (.test (wh) gj (.out (.ret (.p (.sc (.bool (op==14)))) []))))))))))
def Kg (op r a b nn:Int) (tg:List Int) (ll:List Ins) (le:List Ins) (s:ByteArray) (n:Int) (st:Bool) (li:Bool) (wh:Bool):aA:=
 (.call ⟨145,[sI .i64 op],[],.aK [sI .u32 n,.p (.sc (.bool st))],[]⟩
 (.call ⟨152,[sI .i64 op],[],.p (.sc (.string s)),[]⟩
 (.test (s.data.toList==(afC #[]).data.toList)
 (.out (.ret (sB false) []))
 (.test (decide (r<0))
 (.out (.ret (sB false) []))
 (.test (decide (r>1))
 (.out (.ret (sB false) []))
 (.test (decide (r>0))
 (.call ⟨146,[sI .i64 op],[],.p (.sc (.bool li)),[]⟩
 (.test (!li)
 (.out (.ret (sB false) []))
 (.test (decide ((↑ll.length:Int)>0))
 (.call ⟨146,[sI .i64 op],[],.p (.sc (.bool li)),[]⟩
 (.must (!(!li))
 (mA op a b nn tg le st wh)))
 (mA op a b nn tg le st wh))))
 (.test (decide ((↑ll.length:Int)>0))
 (.call ⟨146,[sI .i64 op],[],.p (.sc (.bool li)),[]⟩
 (.test (!li)
 (.out (.ret (sB false) []))
 (mA op a b nn tg le st wh)))
 (mA op a b nn tg le st wh))))))))
theorem PG (op r a b nn:Int) (tg:List Int) (ll:List Ins) (le:List Ins) (s:ByteArray) (n:Int) (st:Bool) (li:Bool) (wh:Bool):aI ae env (ZO op r a b nn tg ll le s n st li wh) 1000000 144 ([nI op r a b nn tg ll le]) ([]) afR=Kg op r a b nn tg ll le s n st li wh:=by kernel_rfl
def iU (e0 e1 e2 e3 e4 e5 li n4 e6 Tz e8 PI e7 st a0 wh:Bool):Bool:=
 !e0&&(!e1&&(!e2&&(!(e3 && !li)&&(!(e4 && !li)&&(!(e5&&n4)&&(!(e6&&Tz)&&(!(e8&&PI)&&(!(e7 && !st)&&(a0||(st||(wh || !Tz)))))))))))
set_option maxHeartbeats 8000000 in
theorem ZP (op r a b nn:Int) (tg:List Int) (ll le:List Ins) (s:ByteArray) (n:Int) (st li wh:Bool) (h1:az ae env 145 [sI .i64 op] [] (.aK [sI .u32 n,sB st]) []) (h2:az ae env 152 [sI .i64 op] [] (.p (.sc (.string s))) [])
  (h3:az ae env 146 [sI .i64 op] [] (sB li) []) (h4:az ae env 147 [sI .i64 op] [] (sB wh) []) :
  az ae env 144 [nI op r a b nn tg ll le] [] (sB (iU (s.data.toList==(afC #[]).data.toList) (decide (r<0)) (decide (r>1)) (decide (r>0)) (decide ((ll.length:Int)>0)) (decide ((le.length:Int)>0)) li (op != 4) (decide ((tg.length:Int)>0)) (op != 14) (nn != 0) (op != 65) (b != 0) st (a==0) wh)) []:=by
 refine aa aH (PG op r a b nn tg ll le s n st li wh) ?_
 simp only[Kg,mA,aV,aA.ok]
 have e14:(op==14) = !(op != 14):=by simp[bne]
 simp only[e14]
 have c1:(op != 14)=false→(op != 65)=true:=by simp only[bne_eq_false_iff_eq,bne_iff_ne,ne_eq];omega
 have c2:(op != 4)=false→(op != 14)=true:=by simp only[bne_eq_false_iff_eq,bne_iff_ne,ne_eq];omega
 have c3:(op != 4)=false→(op != 65)=true:=by simp only[bne_eq_false_iff_eq,bne_iff_ne,ne_eq];omega
 clear e14
 generalize (s.data.toList==(afC #[]).data.toList)=e0
 generalize decide (r<0)=e1
 generalize decide (r>1)=e2
 generalize decide (r>0)=e3
 generalize decide ((ll.length:Int)>0)=e4
 generalize decide ((le.length:Int)>0)=e5
 generalize (op != 4)=n4 at c2 c3 ⊢
 generalize decide ((tg.length:Int)>0)=e6
 generalize (op != 14)=Tz at c1 c2 ⊢
 generalize (nn != 0)=e8
 generalize (op != 65)=PI at c1 c3 ⊢
 generalize (b != 0)=e7
 generalize (a==0)=a0
 refine⟨h1,h2,?_⟩
 cases e0
 case true=>simp[iU]
 cases e1
 case true=>simp[iU]
 cases e2
 case true=>simp[iU]
 cases n4
 case false=>
  obtain rfl:=c2 rfl
  obtain rfl:=c3 rfl
  clear c1 c2 c3
  cases e3<;>cases li<;>(try (simp[iU,h3];done))<;>cases e4<;>(try (simp[iU,h3];done))<;>cases e5<;>cases e6<;>(try (simp[iU,h3];done))<;>cases e8<;>(try (simp[iU,h3];done))<;>cases e7<;>cases st<;>(try (simp[iU,h3];done))<;>cases a0<;>(try (simp[iU,h3];done))<;>cases wh<;>simp[iU,h3,h4]
 clear c2 c3
 cases Tz
 case false=>
  obtain rfl:=c1 rfl
  clear c1
  cases e3<;>cases li<;>(try (simp[iU,h3];done))<;>cases e4<;>(try (simp[iU,h3];done))<;>cases e5<;>(try (simp[iU,h3];done))<;>cases e6<;>cases e8<;>(try (simp[iU,h3];done))<;>cases e7<;>cases st<;>(try (simp[iU,h3];done))<;>cases a0<;>(try (simp[iU,h3];done))<;>cases wh<;>simp[iU,h3,h4]
 clear c1
 cases e3<;>cases li<;>(try (simp[iU,h3];done))<;>cases e4<;>(try (simp[iU,h3];done))<;>cases e5<;>(try (simp[iU,h3];done))<;>cases e6<;>(try (simp[iU,h3];done))<;>cases e8<;>cases PI<;>(try (simp[iU,h3];done))<;>cases e7<;>cases st<;>(try (simp[iU,h3];done))<;>cases a0<;>(try (simp[iU,h3];done))<;>cases wh<;>simp[iU,h3,h4]
end Go.Proofs.YtncncijedmfpjaaGreatDoor.N
end
section
namespace Go.Proofs.YtncncijedmfpjaaGreatDoor.N
open Go Go.Am
def ZQ:bA:=aM aE aC [] [(152,3,3),(152,6,3),(154,0,0),(154,0,1),(154,0,2),(154,0,3),(154,0,4),(154,0,5),(154,0,6),(154,0,7),(154,0,8),(154,0,9),(154,0,10),(154,0,11),(154,0,12),(157,0,0),(157,0,1),(157,0,2),(157,0,3),(157,0,4),(157,0,5),(157,0,6),(157,0,7),(157,0,8),(157,0,9),(157,0,10),(157,0,11),(157,0,12),(157,0,13),(157,0,14),(157,0,15)] []
def afS:Sc:=(.no (.no (.no (.no (.no (.no (.no (.no (.no (.no (.no (.no (.no (.no (.no (.no (.no (.no (.no (.no (.no (.no (.no (.no (.no (.no (.no (.no (.no (.no (.no .fin)))))))))))))))))))))))))))))))
def Kh (op:Int):aA:=
 (.must (!(decide (op≥69)))
 (.must (!(decide (op≥103)))
 (.must (!(op==0))
 (.must (!(op==1))
 (.must (!(op==2))
 (.must (!(op==3))
 (.must (!(op==4))
 (.must (!(op==12))
 (.must (!(op==13))
 (.must (!(op==14))
 (.must (!(op==15))
 (.must (!(op==16))
 (.must (!(op==17))
 (.must (!(op==26))
 (.must (!(op==27))
 (.must (!(op==32))
 (.must (!(op==33))
 (.must (!(op==34))
 (.must (!(op==35))
 (.must (!(op==36))
 (.must (!(op==40))
 (.must (!(op==44))
 (.must (!(op==45))
 (.must (!(op==46))
 (.must (!(op==47))
 (.must (!(op==54))
 (.must (!(op==58))
 (.must (!(op==59))
 (.must (!(op==63))
 (.must (!(op==64))
 (.must (!(op==65))
 (.out (.ret (.p (.sc (.string (afC #[])))) [])))))))))))))))))))))))))))))))))
theorem PJ (op:Int):aI ae env ZQ 1000000 152 ([sI re op]) ([]) afS=Kh op:=by kernel_rfl
def ZR:bA:=aM aE aC [] [(152,3,3),(152,0,0),(152,6,3),(152,0,1),(154,0,0),(154,0,1),(154,0,2),(154,0,3),(154,0,4),(154,0,5),(154,0,6),(154,0,7),(154,0,8),(154,0,9),(154,0,10),(154,0,11),(154,0,12),(157,0,0),(157,0,1),(157,0,2),(157,0,3),(157,0,4),(157,0,5),(157,0,6),(157,0,7),(157,0,8),(157,0,9),(157,0,10),(157,0,11),(157,0,12),(157,0,13),(157,0,14),(157,0,15)] []
def afT:Sc:=(.yes (.no (.yes (.no (.no (.no (.no (.no (.no (.no (.no (.no (.no (.no (.no (.no (.no (.no (.no (.no (.no (.no (.no (.no (.no (.no (.no (.no (.no (.no (.no (.no (.no .fin)))))))))))))))))))))))))))))))))
def Ki (op:Int):aA:=
 (.must (decide (op≥69))
 (.must (!(decide (op≤79)))
 (.must (decide (op≥103))
 (.must (!(decide (op≤120)))
 (.must (!(op==0))
 (.must (!(op==1))
 (.must (!(op==2))
 (.must (!(op==3))
 (.must (!(op==4))
 (.must (!(op==12))
 (.must (!(op==13))
 (.must (!(op==14))
 (.must (!(op==15))
 (.must (!(op==16))
 (.must (!(op==17))
 (.must (!(op==26))
 (.must (!(op==27))
 (.must (!(op==32))
 (.must (!(op==33))
 (.must (!(op==34))
 (.must (!(op==35))
 (.must (!(op==36))
 (.must (!(op==40))
 (.must (!(op==44))
 (.must (!(op==45))
 (.must (!(op==46))
 (.must (!(op==47))
 (.must (!(op==54))
 (.must (!(op==58))
 (.must (!(op==59))
 (.must (!(op==63))
 (.must (!(op==64))
 (.must (!(op==65))
 (.out (.ret (.p (.sc (.string (afC #[])))) [])))))))))))))))))))))))))))))))))))
theorem PK (op:Int):aI ae env ZR 1000000 152 ([sI re op]) ([]) afT=Ki op:=by kernel_rfl
def nA (n:Nat):Bool:=
 match Di ae env [] 100000 152 [sI .i64 n] [] with
 |some (.ret v m)=>jB v (.p (.sc (.string (Py.getD n ⟨#[]⟩))))&&rz m []
 |_=>false
theorem ZS:(ui 0 32).all nA=true:=by kernel_rfl
theorem ZT:(ui 32 32).all nA=true:=by kernel_rfl
theorem ZU:(ui 64 32).all nA=true:=by kernel_rfl
theorem ZV:(ui 96 32).all nA=true:=by kernel_rfl
theorem ZW:(ui 128 32).all nA=true:=by kernel_rfl
theorem ZX:(ui 160 32).all nA=true:=by kernel_rfl
theorem ZY:(ui 192 32).all nA=true:=by kernel_rfl
theorem ZZ:(ui 224 32).all nA=true:=by kernel_rfl
theorem L7 {n:Nat} (h:n<256):nA n=true:=by
 have get : ∀a,(ui a 32).all nA=true→a≤n→n<a+32→nA n=true:=fun a ha h1 h2=>List.all_eq_true.1 ha n (List.mem_range'_1.2 ⟨h1,h2⟩)
 rcases ft n 32 with q | q
 · exact get 0 ZS (by omega) (by omega)
 rcases ft n 64 with q | q
 · exact get 32 ZT (by omega) (by omega)
 rcases ft n 96 with q | q
 · exact get 64 ZU (by omega) (by omega)
 rcases ft n 128 with q | q
 · exact get 96 ZV (by omega) (by omega)
 rcases ft n 160 with q | q
 · exact get 128 ZW (by omega) (by omega)
 rcases ft n 192 with q | q
 · exact get 160 ZX (by omega) (by omega)
 rcases ft n 224 with q | q
 · exact get 192 ZY (by omega) (by omega)
 · exact get 224 ZZ (by omega) (by omega)
theorem ID (op:Int):az ae env 152 [sI .i64 op] [] (.p (.sc (.string (nm op)))) []:=by
 by_cases h0:op<0
 · refine aa aH (PJ op) ?_
   rw[nm,if_pos (.inl h0)]
   simp only[Kh,aA.ok,iv,beq_eq_false_iff_ne,decide_eq_false_iff_not]
   repeat' first | exact True.intro | exact rfl | apply ags
   all_goals omega
 · by_cases h1:256≤op
   · refine aa aH (PK op) ?_
     rw[nm,if_pos (.inr h1)]
     simp only[Ki,aA.ok,iv,beq_eq_false_iff_ne,decide_eq_false_iff_not,decide_eq_true_eq]
     repeat' first | exact True.intro | exact rfl | apply ags
     all_goals omega
   · obtain⟨n,rfl⟩:=Int.eq_ofNat_of_zero_le (by omega:0≤op)
     have hr:=L7 (n:=n) (by omega)
     unfold nA at hr
     split at hr
     · rename_i v m hx
       rw[Bool.and_eq_true] at hr
       rw[lz hr.1,lX hr.2] at hx
       rw[nm,if_neg (by omega)]
       exact gi aH mj hx
     · cases hr
def dQ:Ins→Bool
 |.mk op r a b nn tg ll le=>ud ((nm op).data.toList==(afC #[]).data.toList) (kT op) (decide (op=4)) (iB op||lQ op||decide (op=14)) (iB op) (decide (op=65)) (decide (op=14)) (decide (r<0)) (decide (r>1)) (r != 0) (decide ((ll.length:Int)>0)) (decide ((le.length:Int)>0)) (a==0) (b==0) (nn==0) ((tg.length:Int)==0)
theorem Bq (x:Ins):az ae env 125 [LY x] [] (sB (dQ x)) []:=by
 obtain⟨op,r,a,b,nn,tg,ll,le⟩:=x
 exact ZN op r a b nn tg ll le (nm op) _ _ _ _ _ _ (L6 op) (L5 op)
theorem L8 : ∀e0 e1 e2 e3 e4 e5 li n4 e6 Tz e8 PI e7 st a0 wh:Bool,(e1=true→e3=false)→ud e0 li (!n4) (st||wh || !Tz) st (!PI) (!Tz) e1 e2 (e1||e3) e4 e5 a0 (!e7) (!e8) (!e6)=iU e0 e1 e2 e3 e4 e5 li n4 e6 Tz e8 PI e7 st a0 wh:=by
 intro e0 e1 e2 e3 e4 e5 li n4 e6 Tz e8 PI e7 st a0 wh
 cases e0
 case true=>intro _;rfl
 cases e1
 case true=>intro _;rfl
 cases e2
 case true=>intro _;rfl
 intro _
 revert e3 e4 e5 li n4 e6 Tz e8 PI e7 st a0 wh
 decide +kernel
theorem uW (x:Ins):az ae env 144 [LY x] [] (sB (dQ x)) []:=by
 obtain⟨op,r,a,b,nn,tg,ll,le⟩:=x
 have h:=ZP op r a b nn tg ll le (nm op) _ _ _ _ (dO op) (ID op) (eA op) (fU op)
 rw[←L8] at h
 · have e1:(!(op != 4))=decide (op=4):=by rw[ahx];simp
   have e2:(!(op != 14))=decide (op=14):=by rw[ahx];simp
   have e3:(!(op != 65))=decide (op=65):=by rw[ahx];simp
   have e4:(!(b != 0))=(b==0):=by simp[bne]
   have e5:(!(nn != 0))=(nn==0):=by simp[bne]
   have e6:(!decide ((tg.length:Int)>0))=((tg.length:Int)==0):=by rw[ahx,iv,decide_eq_false_iff_not,beq_iff_eq];omega
   have e7:(decide (r<0)||decide (r>0))=(r != 0):=by rw[ahx,iu,decide_eq_true_eq,decide_eq_true_eq,bne_iff_ne];omega
   rw[e1,e2,e3,e4,e5,e6,e7] at h
   exact h
 · intro q;rw[decide_eq_true_eq] at q;rw[decide_eq_false_iff_not];omega
end Go.Proofs.YtncncijedmfpjaaGreatDoor.N
end
section
namespace Go.Am
theorem pI {Q:List Ins→Prop} (h : ∀l,(∀x∈l,Q x.l∧Q x.e)→Q l) : ∀l,Q l:=by
 have key : ∀(N:Nat) (l:List Ins),cg l≤N→Q l:=by
  intro N
  induction N with
  |zero=>
   intro l hl
   cases l with
   |nil=>exact h [] (fun _ hx=>by cases hx)
   |cons x r=>cases x;simp only[cg,pY] at hl;omega
  |succ N ih=>
   intro l hl
   refine h l fun x hx=> ?_
   have hn:pY x≤cg l:=by
    clear hl
    induction l with
    |nil=>cases hx
    |cons y r ih2=>
     simp only[cg]
     cases hx with
     |head=>omega
     |tail _ hx=>have:=ih2 hx;omega
   obtain⟨op,rs,a,b,nn,tg,ll,le⟩:=x
   simp only[pY] at hn
   exact⟨ih ll (by omega),ih le (by omega)⟩
 exact fun l=>key _ l (Nat.le_refl _)
theorem su {l:List Ins} {x:Ins} (hx:x∈l):pY x≤cg l:=by
 induction l with
 |nil=>cases hx
 |cons y r ih=>
  simp only[cg]
  cases hx with
  |head=>omega
  |tail _ hx=>have:=ih hx;omega
open Classical in
def fI {α:Type} (d:α) (F:List Ins→α) (cs:List PV):α:=if h : ∃l,cs=aj l then F h.choose else d
theorem iV {α:Type} (d:α) (F:List Ins→α) (l:List Ins):fI d F (aj l)=F l:=by
 have h : ∃l',aj l=aj l':=⟨l,rfl⟩
 unfold fI
 rw[dif_pos h,←mq h.choose_spec]
end Go.Am
end
section
namespace Go.Proofs.YtncncijedmfpjaaGreatDoor.N
open Go Go.Am
def coS (_l:List Ins) (_n:Int) (i:Nat) (_op _r _a _b _nn:Int) (_tg:List Int) (_ll _le:List Ins) (_R:List PV→Int):FuncId→Nat→Nat→Option (AV→AV):=bJ [(130,5,1,sI .i64 ((i+1:Nat):Int)),(131,5,1,sI .i64 ((i+1:Nat):Int))]
def coL (_l:List Ins) (_n:Int) (_i:Nat) (_op _r _a _b _nn:Int) (_tg:List Int) (_ll _le:List Ins) (R:List PV→Int) (f:FuncId) (args:List AV) (m:Mem):Option (AV×Mem):=match args with | [.p (.ps _ _ cs)]=>cond (ba f 130||ba f 131) (some (sI .i64 (R cs),m)) none | _=>none
def alS (_l:List Ins) (i:Nat) (op r a b nn:Int) (tg:List Int) (ll le:List Ins) (_ok:Bool) (_R:List PV→Bool):FuncId→Nat→Nat→Option (AV→AV):=bJ [(129,4,1,sI .i64 ((i+1:Nat):Int)),(132,4,1,sI .i64 ((i+1:Nat):Int)),(129,5,3,nI op r a b nn tg ll le),(129,5,11,aL ll),(129,5,20,aL le),(132,5,4,.p (.ps tg.length 1 (bN .u32 tg))),(132,5,12,aL ll),(132,5,20,aL le)]
def alC (_l:List Ins) (_i:Nat) (_op _r _a _b _nn:Int) (_tg:List Int) (_ll _le:List Ins) (ok:Bool) (R:List PV→Bool) (f:FuncId) (args:List AV) (m:Mem):Option (AV×Mem):=match args with | [.p (.ps _ _ cs)]=>cond (ba f 129||ba f 132) (some (sB (R cs),m)) none | _=>cond (ba f 144) (some (sB ok,m)) none
def ckC (_l:List Ins) (a:Bool) (n d:Int) (t:Bool) (f:FuncId) (_:List AV) (m:Mem):Option (AV×Mem):=cond (ba f 129) (some (sB a,m)) (cond (ba f 130) (some (sI .i64 n,m)) (cond (ba f 131) (some (sI .i64 d,m)) (cond (ba f 132) (some (sB t,m)) none)))
def Z0:bA:=aM aE aC [(129,0)] [] []
def afU:Sc:= .fin
def Uo (l:List Ins):aA:=
 (.at (ah ae env 129 0 [.p (.ps l.length 8 (aj l)),sI .i64 0] ([]) 0 34))
theorem PL (l:List Ins):aI ae env Z0 1000000 129 ([aL l]) ([]) afU=Uo l:=by kernel_rfl
def Z1:bA:=aM aE aC [(130,0)] [] []
def afV:Sc:= .fin
def Up (l:List Ins):aA:=
 (.at (ah ae env 130 0 [.p (.ps l.length 8 (aj l)),sI .i64 (↑l.length:Int),sI .i64 0] ([]) 0 29))
theorem PM (l:List Ins):aI ae env Z1 1000000 130 ([aL l]) ([]) afV=Up l:=by kernel_rfl
def Z2:bA:=aM aE aC [(131,0)] [] []
def afW:Sc:= .fin
def Uq (l:List Ins):aA:=
 (.at (ah ae env 131 0 [.p (.ps l.length 8 (aj l)),sI .i64 0,sI .i64 0] ([]) 0 28))
theorem PN (l:List Ins):aI ae env Z2 1000000 131 ([aL l]) ([]) afW=Uq l:=by kernel_rfl
def Z3:bA:=aM aE aC [(132,0)] [] []
def afX:Sc:= .fin
def Ur (l:List Ins):aA:=
 (.at (ah ae env 132 0 [.p (.ps l.length 8 (aj l)),sI .i64 0] ([]) 0 33))
theorem PO (l:List Ins):aI ae env Z3 1000000 132 ([aL l]) ([]) afX=Ur l:=by kernel_rfl
def Z4 (l:List Ins) (n:Int) (i:Nat) (op r a b nn:Int) (tg:List Int) (ll:List Ins) (le:List Ins) (R:List PV→Int):bA:=dY aE (coL l n i op r a b nn tg ll le R) [(130,0)] [(130,0,1)] [(130,0,2)] (coS l n i op r a b nn tg ll le R)
def afY:Sc:= .fin
def Dt (l:List Ins) (n:Int) (i:Nat) (_op _r _a _b _nn:Int) (_tg:List Int) (_ll:List Ins) (_le:List Ins) (R:List PV→Int):aA:=
 (.test (decide ((↑i:Int)<(↑l.length:Int)))
 (.call ⟨130,[.p (.ps (an (aq (aj l) (aB i*8+6))) (aD (aq (aj l) (aB i*8+6))) (ak (aq (aj l) (aB i*8+6))))],[],sI .i64 (R (ak (aq (aj l) (aB i*8+6)))),[]⟩
 (.call ⟨130,[.p (.ps (an (aq (aj l) (aB i*8+7))) (aD (aq (aj l) (aB i*8+7))) (ak (aq (aj l) (aB i*8+7))))],[],sI .i64 (R (ak (aq (aj l) (aB i*8+7)))),[]⟩
 (.must (aP (↑i:Int) l.length&&true&&true&&(aO (aq (aj l) (aB i*8+6))&&true&&(aP (↑i:Int) l.length&&true&&true&&(aO (aq (aj l) (aB i*8+7))&&true&&true)))&&true)
 (.need (sI .i64 (re.wrap ((↑i:Int)+1))=sI re (↑(i+1):Int))
 (.at (ah ae env 130 0 [.p (.ps l.length 8 (aj l)),sI .i64 (re.wrap (re.wrap (n+R (ak (aq (aj l) (aB i*8+6))))+R (ak (aq (aj l) (aB i*8+7))))),sI .i64 (↑(i+1):Int)] ([]) 0 29))))))
 (.must true
 (.out (.ret (sI .i64 n) []))))
theorem FD (l:List Ins) (n:Int) (i:Nat) (op r a b nn:Int) (tg:List Int) (ll:List Ins) (le:List Ins) (R:List PV→Int):grow ae env (Z4 l n i op r a b nn tg ll le R) 1000000 true (ah ae env 130 0 ([aL l,sI re n,sI re (↑i:Int)]) ([]) 0 29) afY atEnd=Dt l n i op r a b nn tg ll le R:=by kernel_rfl
def Z5 (l:List Ins) (n:Int) (i:Nat) (op r a b nn:Int) (tg:List Int) (ll:List Ins) (le:List Ins) (R:List PV→Int):bA:=dY aE (coL l n i op r a b nn tg ll le R) [(131,0)] [(131,0,1)] [(131,0,2)] (coS l n i op r a b nn tg ll le R)
def afZ:Sc:= .fin
def Du (l:List Ins) (n:Int) (i:Nat) (_op _r _a _b _nn:Int) (_tg:List Int) (_ll:List Ins) (_le:List Ins) (R:List PV→Int):aA:=
 (.test (decide ((↑i:Int)<(↑l.length:Int)))
 (.call ⟨131,[.p (.ps (an (aq (aj l) (aB i*8+6))) (aD (aq (aj l) (aB i*8+6))) (ak (aq (aj l) (aB i*8+6))))],[],sI .i64 (R (ak (aq (aj l) (aB i*8+6)))),[]⟩
 (.call ⟨131,[.p (.ps (an (aq (aj l) (aB i*8+7))) (aD (aq (aj l) (aB i*8+7))) (ak (aq (aj l) (aB i*8+7))))],[],sI .i64 (R (ak (aq (aj l) (aB i*8+7)))),[]⟩
 (.must (aP (↑i:Int) l.length&&true&&true&&(aO (aq (aj l) (aB i*8+6))&&true&&(aP (↑i:Int) l.length&&true&&true&&(aO (aq (aj l) (aB i*8+7))&&true&&true)))&&true)
 (.need (sI .i64 (re.wrap ((↑i:Int)+1))=sI re (↑(i+1):Int))
 (.at (ah ae env 131 0 [.p (.ps l.length 8 (aj l)),sI .i64 (bif false then Min.min n (re.wrap (1+bif false then Min.min (R (ak (aq (aj l) (aB i*8+6)))) (R (ak (aq (aj l) (aB i*8+7)))) else Max.max (R (ak (aq (aj l) (aB i*8+6)))) (R (ak (aq (aj l) (aB i*8+7)))))) else Max.max n (re.wrap (1+bif false then Min.min (R (ak (aq (aj l) (aB i*8+6)))) (R (ak (aq (aj l) (aB i*8+7)))) else Max.max (R (ak (aq (aj l) (aB i*8+6)))) (R (ak (aq (aj l) (aB i*8+7))))))),sI .i64 (↑(i+1):Int)] ([]) 0 28))))))
 (.must true
 (.out (.ret (sI .i64 n) []))))
theorem FE (l:List Ins) (n:Int) (i:Nat) (op r a b nn:Int) (tg:List Int) (ll:List Ins) (le:List Ins) (R:List PV→Int):grow ae env (Z5 l n i op r a b nn tg ll le R) 1000000 true (ah ae env 131 0 ([aL l,sI re n,sI re (↑i:Int)]) ([]) 0 28) afZ atEnd=Du l n i op r a b nn tg ll le R:=by kernel_rfl
def Z6 (l:List Ins) (i:Nat) (op r a b nn:Int) (tg:List Int) (ll:List Ins) (le:List Ins) (ok:Bool) (R:List PV→Bool):bA:=dY (alC l i op r a b nn tg ll le ok R) aC [(129,0)] [(129,0,1),(129,5,7),(129,5,16),(129,0,2)] [(129,5,2),(129,5,3),(129,5,9),(129,5,11),(129,5,18),(129,5,20)] (alS l i op r a b nn tg ll le ok R)
def af0:Sc:=(.fork (.fork (.lit (.lit .fin)) (.fork (.lit .fin) .fin)) .fin)
def Dv (l:List Ins) (i:Nat) (op r a b nn:Int) (tg:List Int) (ll:List Ins) (le:List Ins) (ok:Bool) (R:List PV→Bool):aA:=
 (.test (decide ((↑i:Int)<(↑l.length:Int)))
 (.must (aP (↑i:Int) l.length&&true&&true)
 (.must (isInt re (aq (aj l) (aB i*8))&&(isInt re (aq (aj l) (aB i*8+1))&&(isInt aeG (aq (aj l) (aB i*8+1+1))&&(isInt aeG (aq (aj l) (aB i*8+1+1+1))&&(isInt IntKind.i32 (aq (aj l) (aB i*8+1+1+1+1))&&(aO (aq (aj l) (aB i*8+1+1+1+1+1))&&(aO (aq (aj l) (aB i*8+1+1+1+1+1+1))&&(aO (aq (aj l) (aB i*8+1+1+1+1+1+1+1))&&true)))))))&&true)
 (.need (AV.agg [sI .i64 (au (aq (aj l) (aB i*8))),sI .i64 (au (aq (aj l) (aB i*8+1))),sI .u32 (au (aq (aj l) (aB i*8+1+1))),sI .u32 (au (aq (aj l) (aB i*8+1+1+1))),sI .i32 (au (aq (aj l) (aB i*8+1+1+1+1))),AV.p (PV.ps (an (aq (aj l) (aB i*8+1+1+1+1+1))) (aD (aq (aj l) (aB i*8+1+1+1+1+1))) (ak (aq (aj l) (aB i*8+1+1+1+1+1)))),AV.p (PV.ps (an (aq (aj l) (aB i*8+1+1+1+1+1+1))) (aD (aq (aj l) (aB i*8+1+1+1+1+1+1))) (ak (aq (aj l) (aB i*8+1+1+1+1+1+1)))),AV.p (PV.ps (an (aq (aj l) (aB i*8+1+1+1+1+1+1+1))) (aD (aq (aj l) (aB i*8+1+1+1+1+1+1+1))) (ak (aq (aj l) (aB i*8+1+1+1+1+1+1+1))))]=nI op r a b nn tg ll le)
 (.call ⟨144,[.agg [sI .i64 op,sI .i64 r,sI .u32 a,sI .u32 b,sI .i32 nn,.p (.ps tg.length 1 (bN aeG tg)),.p (.ps ll.length 8 (aj ll)),.p (.ps le.length 8 (aj le))]],[],.p (.sc (.bool ok)),[]⟩
 (.test (!ok)
 (.out (.ret (sB false) []))
 (.must (aP (↑i:Int) l.length&&true&&true)
 (.must (aO (aq (aj l) (aB i*8+6))&&true)
 (.need (AV.p (PV.ps (an (aq (aj l) (aB i*8+6))) (aD (aq (aj l) (aB i*8+6))) (ak (aq (aj l) (aB i*8+6))))=aL ll)
 (.call ⟨129,[.p (.ps ll.length 8 (aj ll))],[],.p (.sc (.bool (R (aj ll)))),[]⟩
 (.test (!R (aj ll))
 (.out (.ret (sB false) []))
 (.must (aP (↑i:Int) l.length&&true&&true)
 (.must (aO (aq (aj l) (aB i*8+7))&&true)
 (.need (AV.p (PV.ps (an (aq (aj l) (aB i*8+7))) (aD (aq (aj l) (aB i*8+7))) (ak (aq (aj l) (aB i*8+7))))=aL le)
 (.call ⟨129,[.p (.ps le.length 8 (aj le))],[],.p (.sc (.bool (R (aj le)))),[]⟩
 (.test (!R (aj le))
 (.out (.ret (sB false) []))
 (.need (sI .i64 (re.wrap ((↑i:Int)+1))=sI re (↑(i+1):Int))
 (.at (ah ae env 129 0 [.p (.ps l.length 8 (aj l)),sI .i64 (↑(i+1):Int)] ([]) 0 34))))))))))))))))))
 gj)
theorem FF (l:List Ins) (i:Nat) (op r a b nn:Int) (tg:List Int) (ll:List Ins) (le:List Ins) (ok:Bool) (R:List PV→Bool):grow ae env (Z6 l i op r a b nn tg ll le ok R) 1000000 true (ah ae env 129 0 ([aL l,sI re (↑i:Int)]) ([]) 0 34) af0 atEnd=Dv l i op r a b nn tg ll le ok R:=by kernel_rfl
def Z7 (l:List Ins) (i:Nat) (op r a b nn:Int) (tg:List Int) (ll:List Ins) (le:List Ins) (ok:Bool) (R:List PV→Bool):bA:=dY (alC l i op r a b nn tg ll le ok R) aC [(132,0)] [(132,0,1),(132,5,8),(132,5,16),(132,0,2)] [(132,5,2),(132,5,4),(132,5,10),(132,5,12),(132,5,18),(132,5,20)] (alS l i op r a b nn tg ll le ok R)
def af1:Sc:=(.fork (.fork (.lit (.lit .fin)) (.fork (.lit .fin) .fin)) .fin)
def Dw (l:List Ins) (i:Nat) (_op _r _a _b _nn:Int) (tg:List Int) (ll:List Ins) (le:List Ins) (_ok:Bool) (R:List PV→Bool):aA:=
 (.test (decide ((↑i:Int)<(↑l.length:Int)))
 (.must (aP (↑i:Int) l.length&&true&&true)
 (.must (aO (aq (aj l) (aB i*8+5))&&true)
 (.need (AV.p (PV.ps (an (aq (aj l) (aB i*8+5))) (aD (aq (aj l) (aB i*8+5))) (ak (aq (aj l) (aB i*8+5))))=AV.p (PV.ps tg.length 1 (bN aeG tg)))
 (.test (decide ((↑tg.length:Int)>16384))
 gj
 (.must (aP (↑i:Int) l.length&&true&&true)
 (.must (aO (aq (aj l) (aB i*8+6))&&true)
 (.need (AV.p (PV.ps (an (aq (aj l) (aB i*8+6))) (aD (aq (aj l) (aB i*8+6))) (ak (aq (aj l) (aB i*8+6))))=aL ll)
 (.call ⟨132,[.p (.ps ll.length 8 (aj ll))],[],.p (.sc (.bool (R (aj ll)))),[]⟩
 (.test (R (aj ll))
 gj
 (.must (aP (↑i:Int) l.length&&true&&true)
 (.must (aO (aq (aj l) (aB i*8+7))&&true)
 (.need (AV.p (PV.ps (an (aq (aj l) (aB i*8+7))) (aD (aq (aj l) (aB i*8+7))) (ak (aq (aj l) (aB i*8+7))))=aL le)
 (.call ⟨132,[.p (.ps le.length 8 (aj le))],[],.p (.sc (.bool (R (aj le)))),[]⟩
 (.test (R (aj le))
 gj
 (.need (sI .i64 (re.wrap ((↑i:Int)+1))=sI re (↑(i+1):Int))
 (.at (ah ae env 132 0 [.p (.ps l.length 8 (aj l)),sI .i64 (↑(i+1):Int)] ([]) 0 33)))))))))))))))))
 (.out (.ret (sB false) [])))
theorem FG (l:List Ins) (i:Nat) (op r a b nn:Int) (tg:List Int) (ll:List Ins) (le:List Ins) (ok:Bool) (R:List PV→Bool):grow ae env (Z7 l i op r a b nn tg ll le ok R) 1000000 true (ah ae env 132 0 ([aL l,sI re (↑i:Int)]) ([]) 0 33) af1 atEnd=Dw l i op r a b nn tg ll le ok R:=by kernel_rfl
def Z8 (l:List Ins) (a:Bool) (n d:Int) (t:Bool):bA:=aM (ckC l a n d t) aC [] [(122,0,0),(122,4,4),(122,4,9),(122,0,1)] []
def af2:Sc:=(.fork .fin (.fork (.lit (.lit .fin)) (.fork (.lit .fin) .fin)))
def Us (l:List Ins) (a:Bool) (n d:Int) (t:Bool):aA:=
 (.call ⟨129,[.p (.ps l.length 8 (aj l))],[],.p (.sc (.bool a)),[]⟩
 (.test (!a)
 (.out (.ret (sI .i64 2) []))
 (.call ⟨130,[.p (.ps l.length 8 (aj l))],[],sI .i64 n,[]⟩
 (.test (decide (n>262144))
 (.out (.ret (sI .i64 141) []))
 (.call ⟨131,[.p (.ps l.length 8 (aj l))],[],sI .i64 d,[]⟩
 (.test (decide (d>900))
 (.out (.ret (sI .i64 141) []))
 (.call ⟨132,[.p (.ps l.length 8 (aj l))],[],.p (.sc (.bool t)),[]⟩
 (.test (t)
 (.out (.ret (sI .i64 141) []))
 (.out (.ret (sI .i64 0) []))))))))))
theorem PR (l:List Ins) (a:Bool) (n d:Int) (t:Bool):aI ae env (Z8 l a n d t) 1000000 122 ([aL l]) ([]) af2=Us l a n d t:=by kernel_rfl
theorem L9 {p:Ins→Bool} (hp : ∀x:Ins,az ae env 144 [LY x] [] (sB (p x)) []) : ∀l:List Ins,cg l≤iT→az ae env 129 [aL l] [] (sB (sW p l)) []:=by
 refine pI fun l IH hb=>aa aH (PL l) ?_
 have loop : ∀(r k:Nat),k+r=l.length→aU ae env (ah ae env 129 0 [aL l,sI .i64 k] [] 0 34) (.ret (sB (sW p (l.drop k))) []):=by
  intro r
  induction r with
  |zero=>
   intro k hk
   refine af aH (FF l k 0 0 0 0 0 [] [] [] true (fun _=>true)) ?_
   have h2 : ¬((k:Int)<l.length):=by omega
   rw[agp (by omega)]
   simp only[Dv,aV,aA.ok,sW]
   exact⟨fun h=>absurd (by simpa using h) h2,fun _=>trivial⟩
  |succ r ih=>
   intro k hk
   have nG:k<l.length:=by omega
   have FA:l[k]? = some l[k]:=da nG
   have hmem:l[k]∈l:=en nG
   rw[show l.drop k=l[k]::l.drop (k+1) from agj nG]
   have hlen:=fT l
   have Al:iT=1000000000000:=rfl
   generalize l[k]=x at *
   have pJ:=IH x hmem
   have hpx:=hp x
   have OW:=su hmem
   obtain⟨op,rs,a,b,nn,tg,ll,le⟩:=x
   simp only[Ins.l,Ins.e,pY] at pJ OW
   obtain⟨c0,c1,c2,c3,c4,c5,c6,c7⟩:=gE FA
   have w1:re.wrap ((k:Int)+1)=((k+1:Nat):Int):=by rw[aQ (by omega) (by omega)];rfl
   have xY:(k:Int)<(l.length:Int):=by omega
   refine af aH (FF l k op rs a b nn tg ll le (p (.mk op rs a b nn tg ll le)) (fI true (sW p))) ?_
   simp only[Dv,aV,aA.ok,afm,Nat.add_assoc,aeV,c0,c1,c2,c3,c4,c5,c6,c7,isInt,aO,au,an,aD,ak,aP,w1,iV,sW,okI]
   refine⟨fun _=>⟨by simp[xY],by simp,rfl,hpx,fun h=> ?_,fun h=>⟨by simp[xY],rfl,(by trivial),pJ.1 (by omega),fun h1=> ?_,fun h1=>⟨by simp[xY],rfl,(by trivial),pJ.2 (by omega),fun h2=> ?_,fun h2=>⟨(by trivial),?_⟩⟩⟩⟩,fun h=>absurd xY (by simpa using h)⟩
   · rw[iv] at h;rw[h];rfl
   · rw[iv] at h1;rw[h1,ajl,ajn,ajl]
   · rw[iv] at h2;rw[h2,ajn,ajn,ajl]
   · rw[ajo] at h h1 h2
     rw[h,h1,h2]
     exact ih (k+1) (by omega)
 have h:=loop l.length 0 (by omega)
 rw[aeI] at h
 exact h
theorem IE : ∀l:List Ins,cg l≤iT→az ae env 132 [aL l] [] (sB (decide (16384<iS l))) []:=by
 refine pI fun l IH hb=>aa aH (PO l) ?_
 have loop : ∀(r k:Nat),k+r=l.length→aU ae env (ah ae env 132 0 [aL l,sI .i64 k] [] 0 33) (.ret (sB (decide (16384<iS (l.drop k)))) []):=by
  intro r
  induction r with
  |zero=>
   intro k hk
   refine af aH (FG l k 0 0 0 0 0 [] [] [] true (fun _=>true)) ?_
   have h2 : ¬((k:Int)<l.length):=by omega
   rw[agp (by omega)]
   simp only[Dw,aV,aA.ok,iS]
   exact⟨fun h=>absurd (by simpa using h) h2,fun _=>rfl⟩
  |succ r ih=>
   intro k hk
   have nG:k<l.length:=by omega
   have FA:l[k]? = some l[k]:=da nG
   have hmem:l[k]∈l:=en nG
   rw[show l.drop k=l[k]::l.drop (k+1) from agj nG]
   have hlen:=fT l
   have Al:iT=1000000000000:=rfl
   generalize l[k]=x at *
   have pJ:=IH x hmem
   have OW:=su hmem
   obtain⟨op,rs,a,b,nn,tg,ll,le⟩:=x
   simp only[Ins.l,Ins.e,pY] at pJ OW
   obtain⟨c0,c1,c2,c3,c4,c5,c6,c7⟩:=gE FA
   have w1:re.wrap ((k:Int)+1)=((k+1:Nat):Int):=by rw[aQ (by omega) (by omega)];rfl
   have xY:(k:Int)<(l.length:Int):=by omega
   refine af aH (FG l k op rs a b nn tg ll le true (fI true fun l=>decide (16384<iS l))) ?_
   simp only[Dw,aV,aA.ok,afm,c5,c6,c7,aO,an,aD,ak,aP,w1,iV]
   have hT:iS (.mk op rs a b nn tg ll le::l.drop (k+1))=max (max tg.length (max (iS ll) (iS le))) (iS (l.drop (k+1))):=by simp only[iS,Pk]
   generalize iS (.mk op rs a b nn tg ll le::l.drop (k+1))=T at *
   have out:16384<T→Out.ret (.p (.sc (.bool true))) []=Out.ret (sB (decide (16384<T))) []:=fun hq=>by rw[decide_eq_true hq]
   refine⟨fun _=>⟨by simp[xY],rfl,(by trivial),fun h=>out ?_,fun h=>⟨by simp[xY],rfl,(by trivial),pJ.1 (by omega),fun h1=>out ?_,fun h1=>⟨by simp[xY],rfl,(by trivial),pJ.2 (by omega),fun h2=>out ?_,fun h2=>⟨(by trivial),?_⟩⟩⟩⟩,fun h=>absurd xY (by simpa using h)⟩
   · rw[decide_eq_true_eq] at h;omega
   · rw[decide_eq_true_eq] at h1;omega
   · rw[decide_eq_true_eq] at h2;omega
   · rw[decide_eq_false_iff_not] at h h1 h2
     have:=ih (k+1) (by omega)
     rw[show decide (16384<T)=decide (16384<iS (l.drop (k+1))) from ahx.2 (by rw[decide_eq_true_eq,decide_eq_true_eq];omega)]
     exact this
 have h:=loop l.length 0 (by omega)
 rw[aeI] at h
 exact h
theorem FH : ∀l:List Ins,cg l≤iT→az ae env 130 [aL l] [] (sI .i64 (cg l)) []:=by
 refine pI fun l IH hb=>aa aH (PM l) ?_
 have loop : ∀(r k n:Nat),k+r=l.length→n+cg (l.drop k)≤2*iT+(l.drop k).length→aU ae env (ah ae env 130 0 [aL l,sI .i64 n,sI .i64 k] [] 0 29) (.ret (sI .i64 (n+cg (l.drop k)-(l.drop k).length:Int)) []):=by
  intro r
  induction r with
  |zero=>
   intro k n hk hn
   refine af aH (FD l n k 0 0 0 0 0 [] [] [] (fun _=>0)) ?_
   have h2 : ¬((k:Int)<l.length):=by omega
   rw[agp (by omega)]
   simp only[Dt,aV,aA.ok,cg]
   exact⟨fun h=>absurd (by simpa using h) h2,fun _=>⟨(by trivial),by simp⟩⟩
  |succ r ih=>
   intro k n hk
   have nG:k<l.length:=by omega
   have FA:l[k]? = some l[k]:=da nG
   have hmem:l[k]∈l:=en nG
   rw[show l.drop k=l[k]::l.drop (k+1) from agj nG]
   have hlen:=fT l
   have nw:=fT (l.drop (k+1))
   have Al:iT=1000000000000:=rfl
   generalize l[k]=x at *
   have pJ:=IH x hmem
   have OW:=su hmem
   obtain⟨op,rs,a,b,nn,tg,ll,le⟩:=x
   simp only[Ins.l,Ins.e,pY,cg,List.length_cons] at pJ OW ⊢
   intro hn
   obtain⟨c0,c1,c2,c3,c4,c5,c6,c7⟩:=gE FA
   have w1:re.wrap ((k:Int)+1)=((k+1:Nat):Int):=by rw[aQ (by omega) (by omega)];rfl
   have w2:re.wrap ((n:Int)+cg ll)=((n+cg ll:Nat):Int):=by rw[aQ (by omega) (by omega)];rfl
   have w3:re.wrap (((n+cg ll:Nat):Int)+cg le)=((n+cg ll+cg le:Nat):Int):=by rw[aQ (by omega) (by omega)];rfl
   have xY:(k:Int)<(l.length:Int):=by omega
   refine af aH (FD l n k op rs a b nn tg ll le (fI 0 fun l=>(cg l:Int))) ?_
   simp only[Dt,aV,aA.ok,afm,c6,c7,aO,an,aD,ak,aP,w1,iV,w2,w3]
   have:=ih (k+1) (n+cg ll+cg le) (by omega) (by omega)
   refine⟨fun _=>⟨pJ.1 (by omega),pJ.2 (by omega),by simp[xY],(by trivial),?_⟩,fun h=>absurd xY (by simpa using h)⟩
   rw[show((n:Int)+((1+cg ll+cg le+cg (l.drop (k+1)):Nat):Int)-(((l.drop (k+1)).length+1:Nat):Int))=((n+cg ll+cg le:Nat):Int)+cg (l.drop (k+1))-(l.drop (k+1)).length by omega]
   exact this
 have h:=loop l.length 0 l.length (by omega) (by rw[aeI];have Al:iT=1000000000000:=rfl;omega)
 rw[aeI,show((l.length:Int)+cg l-l.length)=cg l by omega] at h
 exact h
theorem PS (l:List Ins):dP 2 l=if l=[] then 0 else dP 1 l+1:=by
 split
 · rename_i h;rw[h];rfl
 · rename_i h;exact m4 1 l h
theorem PT (op rs a b nn:Int) (tg:List Int) (ll le:List Ins):Ds 1 (.mk op rs a b nn tg ll le)=1+max (dP 1 ll) (dP 1 le):=by
 simp only[Ds,aeV,PS]
 have z:dP 1 ([]:List Ins)=0:=rfl
 split<;>split<;>simp_all<;>omega
theorem IF : ∀l:List Ins,cg l≤iT→az ae env 131 [aL l] [] (sI .i64 (dP 1 l)) []:=by
 refine pI fun l IH hb=>aa aH (PN l) ?_
 have loop : ∀(r k n:Nat),k+r=l.length→aU ae env (ah ae env 131 0 [aL l,sI .i64 n,sI .i64 k] [] 0 28) (.ret (sI .i64 (max n (dP 1 (l.drop k)):Nat)) []):=by
  intro r
  induction r with
  |zero=>
   intro k n hk
   refine af aH (FE l n k 0 0 0 0 0 [] [] [] (fun _=>0)) ?_
   have h2 : ¬((k:Int)<l.length):=by omega
   rw[agp (by omega)]
   simp only[Du,aV,aA.ok,dP,Nat.max_zero]
   exact⟨fun h=>absurd (by simpa using h) h2,fun _=>⟨(by trivial),(by trivial)⟩⟩
  |succ r ih=>
   intro k n hk
   have nG:k<l.length:=by omega
   have FA:l[k]? = some l[k]:=da nG
   have hmem:l[k]∈l:=en nG
   rw[show l.drop k=l[k]::l.drop (k+1) from agj nG]
   have hlen:=fT l
   have Al:iT=1000000000000:=rfl
   generalize l[k]=x at *
   have pJ:=IH x hmem
   have OW:=su hmem
   obtain⟨op,rs,a,b,nn,tg,ll,le⟩:=x
   simp only[Ins.l,Ins.e,pY] at pJ OW
   have d1:=oJ 1 ll
   have d2:=oJ 1 le
   obtain⟨c0,c1,c2,c3,c4,c5,c6,c7⟩:=gE FA
   have w1:re.wrap ((k:Int)+1)=((k+1:Nat):Int):=by rw[aQ (by omega) (by omega)];rfl
   have m1:max (dP 1 ll:Int) (dP 1 le:Int)=((max (dP 1 ll) (dP 1 le):Nat):Int):=by omega
   have w2:re.wrap (1+((max (dP 1 ll) (dP 1 le):Nat):Int))=((1+max (dP 1 ll) (dP 1 le):Nat):Int):=by rw[aQ (by omega) (by omega)];rfl
   have m2:max (n:Int) ((1+max (dP 1 ll) (dP 1 le):Nat):Int)=((max n (1+max (dP 1 ll) (dP 1 le)):Nat):Int):=by omega
   have xY:(k:Int)<(l.length:Int):=by omega
   refine af aH (FE l n k op rs a b nn tg ll le (fI 0 fun l=>(dP 1 l:Int))) ?_
   simp only[Du,aV,aA.ok,afm,c6,c7,aO,an,aD,ak,aP,w1,iV,cond_false,m1,w2,m2]
   have:=ih (k+1) (max n (1+max (dP 1 ll) (dP 1 le))) (by omega)
   refine⟨fun _=>⟨pJ.1 (by omega),pJ.2 (by omega),by simp[xY],(by trivial),?_⟩,fun h=>absurd xY (by simpa using h)⟩
   rw[show max n (dP 1 (.mk op rs a b nn tg ll le::l.drop (k+1)))=max (max n (1+max (dP 1 ll) (dP 1 le))) (dP 1 (l.drop (k+1))) by simp only[dP,PT];omega]
   exact this
 have h:=loop l.length 0 0 (by omega)
 rw[aeI,Nat.zero_max] at h
 exact h
theorem uX {p:Ins→Bool} (hp : ∀x:Ins,az ae env 144 [LY x] [] (sB (p x)) []) (l:List Ins) (h:cg l≤iT):az ae env 122 [aL l] [] (sI .i64 (bT p l)) []:=by
 refine aa aH (PR l (sW p l) (cg l) (dP 1 l) (decide (16384<iS l))) ⟨L9 hp l h,fun h0=> ?_,fun h0=>⟨FH l h,fun h1=> ?_,fun h1=>⟨IF l h,fun h2=> ?_,fun h2=>⟨IE l h,fun h3=> ?_,fun h3=> ?_⟩⟩⟩⟩
 · rw[iv] at h0
   rw[bT,if_pos h0];rfl
 all_goals
  rw[ajo] at h0
  simp only[decide_eq_true_eq,decide_eq_false_iff_not] at *
  rw[bT,if_neg (by rw[h0];simp)]
 · rw[if_pos (by omega)];rfl
 · rw[if_pos (by omega)];rfl
 · rw[if_pos (by omega)];rfl
 · rw[if_neg (by omega)];rfl
end Go.Proofs.YtncncijedmfpjaaGreatDoor.N
end
