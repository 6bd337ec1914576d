import Derived.Test.YtjfgfhaoeicpdaaGreatDoorMI
open ByteArray renaming mk→aeV
open Go.Proofs.Tryz renaming prog→ab5
open List renaming getD_eq_getElem?_getD→cb,getElem?_eq_getElem→bm
open Bool renaming eq_iff_iff→aeW,or_eq_true→ib
noncomputable section
section
namespace Go.Proofs.YtjfgfhaoeicpdaaGreatDoor.N
open Go Go.Am
def agc (f:FuncId) (_:List AV) (_:Mem):Option (AV×Mem):=cond (Nat.beq f 128) (some (.agg (Sj.map fun s=> .p (.sc (.string s))),[])) none
def agd (op:Int):FuncId→Nat→Nat→Option (AV→AV):=cL [(112,4,2,.p (.sc (.string (Sj.getD op.toNat ⟨#[]⟩))))]
def age (_op:Int) (n:Int) (st:Bool) (f:FuncId) (_:List AV) (_:Mem):Option (AV×Mem):=cond (Nat.beq f 127) (some (.aA [sI .u32 n,sB st],[])) none
def agf (_op _r _a _b _nn:Int) (_tg:List Int) (_ll _le:List Ins) (s:ByteArray) (u1 u2 u3 u4 u5 u6:Bool) (f:FuncId) (_:List AV) (_:Mem):Option (AV×Mem):=cond (Nat.beq f 112) (some (.p (.sc (.string s)),[])) (cond (Nat.beq f 111) (some (.agg [sB u1,sB u2,sB u3,sB u4,sB u5,sB u6],[])) none)
def XQ (op:Int):bD:=fy agc av [] [(112,2,3),(112,0,0)] [(112,4,2)] (agd op)
def ab7:Sc:=(.fork (.lit .fin) .fin)
def Iz (op:Int):aC:=
 (.test (decide (op<0))
 (.out (.ret (.p (.sc (.string (aeV #[])))) []))
 (.test (decide (op≥256))
 (.out (.ret (.p (.sc (.string (aeV #[])))) []))
 (.call ⟨128,[],[],.agg (Sj.map fun s=> .p (.sc (.string s))),[]⟩
 (.must (bp op 256&&(op.toNat*1).blt 256&&true)
 (.need ((Sj.map fun s=>AV.p (PV.sc (.string s))).getD (op.toNat*1) AV.aj=AV.p (PV.sc (Value.string (Sj.getD op.toNat (aeV #[])))))
 (.out (.ret (.p (.sc (.string (Sj.getD op.toNat (aeV #[]))))) [])))))))
theorem NZ (op:Int):aH ab5 env (XQ op) 1000000 112 ([sI IntKind.i64 op]) ([]) ab7=Iz op:=by kernel_rfl
def XR:bD:=aQ aI av [] [(127,0,0),(127,0,1),(127,0,2),(127,0,4),(127,0,3),(127,0,5),(127,0,7),(127,0,6)] []
def ab8:Sc:=(.fork (.yes .fin) (.fork .fin (.fork (.yes .fin) (.fork (.yes .fin) (.fork .fin (.fork (.yes .fin) (.fork (.yes .fin) .fin)))))))
def IA (op:Int):aC:=
 (.test (op==40)
 (.must (op==40)
 (.out (.ret (.aA [sI .u32 2,sB true]) [])))
 (.test (op==54)
 (.out (.ret (.aA [sI .u32 2,sB true]) []))
 (.test (op==46)
 (.must (op==46)
 (.out (.ret (.aA [sI .u32 1,sB true]) [])))
 (.test (op==47)
 (.must (op==47)
 (.out (.ret (.aA [sI .u32 1,sB true]) [])))
 (.test (op==59)
 (.out (.ret (.aA [sI .u32 1,sB true]) []))
 (.test (op==44)
 (.must (op==44)
 (.out (.ret (.aA [sI .u32 0,sB true]) [])))
 (.test (op==45)
 (.must (op==45)
 (.out (.ret (.aA [sI .u32 0,sB true]) [])))
 (.test (op==58)
 (.out (.ret (.aA [sI .u32 0,sB true]) []))
 (.out (.ret (.aA [sI .u32 0,sB false]) []))))))))))
theorem N0 (op:Int):aH ab5 env XR 1000000 127 ([sI IntKind.i64 op]) ([]) ab8=IA op:=by kernel_rfl
def XS (op n:Int) (st:Bool):bD:=aQ (age op n st) av [] [(111,0,0),(111,0,1),(111,0,2),(111,0,3),(111,0,4),(111,0,12),(111,0,5),(111,0,6),(111,0,7),(111,0,8),(111,0,9),(111,0,10),(111,0,11),(111,0,13),(111,0,14)] []
def ab9:Sc:=(.fork .fin (.fork (.yes .fin) (.fork .fin (.fork .fin (.fork (.yes .fin) (.fork (.yes .fin) (.fork (.yes .fin) (.fork (.yes .fin) (.fork (.yes .fin) (.fork (.yes .fin) (.fork (.yes .fin) (.fork (.yes .fin) .fin))))))))))))
def fc:aC:=
 (.out (.ret (.agg [sB false,sB false,sB true,sB false,sB false,sB false]) []))
def IB (op n:Int) (st:Bool):aC:=
 (.call ⟨127,[sI .i64 op],[],.aA [sI .u32 n,.p (.sc (.bool st))],[]⟩
 (.test (st)
 (.out (.ret (.agg [sB false,sB false,sB true,sB true,sB false,sB false]) []))
 (.test (op==2)
 (.must (op==2)
 (.out (.ret (.agg [sB true,sB false,sB false,sB false,sB false,sB false]) [])))
 (.test (op==3)
 (.out (.ret (.agg [sB true,sB false,sB false,sB false,sB false,sB false]) []))
 (.test (op==4)
 (.out (.ret (.agg [sB true,sB true,sB false,sB false,sB false,sB false]) []))
 (.test (op==12)
 (.must (op==12)
 (fc))
 (.test (op==13)
 (.must (op==13)
 (fc))
 (.test (op==16)
 (.must (op==16)
 (fc))
 (.test (op==17)
 (.must (op==17)
 (fc))
 (.test (op==32)
 (.must (op==32)
 (fc))
 (.test (op==33)
 (.must (op==33)
 (fc))
 (.test (op==34)
 (.must (op==34)
 (fc))
 (.test (op==35)
 (.must (op==35)
 (fc))
 (.test (op==36)
 (fc)
 (.test (op==14)
 (.out (.ret (.agg [sB false,sB false,sB true,sB false,sB false,sB true]) []))
 (.test (op==65)
 (.out (.ret (.agg [sB false,sB false,sB false,sB false,sB true,sB false]) []))
 (.out (.ret (.agg [sB false,sB false,sB false,sB false,sB false,sB false]) []))))))))))))))))))
theorem N1 (op n:Int) (st:Bool):aH ab5 env (XS op n st) 1000000 111 ([sI IntKind.i64 op]) ([]) ab9=IB op n st:=by kernel_rfl
def XT (op r a b nn:Int) (tg:List Int) (ll:List Ins) (le:List Ins) (s:ByteArray) (u1:Bool) (u2:Bool) (u3:Bool) (u4:Bool) (u5:Bool) (u6:Bool):bD:=aQ (agf op r a b nn tg ll le s u1 u2 u3 u4 u5 u6) av [] [(95,0,0),(95,0,3),(95,4,4),(95,0,1),(95,5,4),(95,5,8),(95,0,2),(95,6,4),(95,8,3),(95,8,11),(95,8,20),(95,8,29),(95,8,26),(95,8,17),(95,8,8)] []
def acd:Sc:=(.fork (.yes .fin) (.fork (.lit (.lit .fin)) (.fork (.yes .fin) (.fork (.fork (.lit (.lit .fin)) (.fork (.yes .fin) (.fork (.fork .fin (.fork (.lit (.fork (.lit (.fork (.lit .fin) .fin)) (.fork (.fork (.lit .fin) .fin) (.lit .fin)))) (.fork (.fork (.lit (.fork (.lit .fin) .fin)) (.fork (.fork (.lit .fin) .fin) (.lit .fin))) (.lit (.lit .fin))))) (.lit (.fork (.lit (.fork (.lit (.fork (.lit .fin) .fin)) (.fork (.fork (.lit .fin) .fin) (.lit .fin)))) (.fork (.fork (.lit (.fork (.lit .fin) .fin)) (.fork (.fork (.lit .fin) .fin) (.lit .fin))) (.lit (.lit .fin)))))))) (.lit (.fork (.fork .fin (.fork (.lit (.fork (.lit (.fork (.lit .fin) .fin)) (.fork (.fork (.lit .fin) .fin) (.lit .fin)))) (.fork (.fork (.lit (.fork (.lit .fin) .fin)) (.fork (.fork (.lit .fin) .fin) (.lit .fin))) (.lit (.lit .fin))))) (.lit (.fork (.lit (.fork (.lit (.fork (.lit .fin) .fin)) (.fork (.fork (.lit .fin) .fin) (.lit .fin)))) (.fork (.fork (.lit (.fork (.lit .fin) .fin)) (.fork (.fork (.lit .fin) .fin) (.lit .fin))) (.lit (.lit .fin)))))))))))
def tB (b nn:Int) (tg:List Int) (u4:Bool) (u5:Bool) (u6:Bool):aC:=
 (.test (u4) (.test (u5) (.test (u6) oO (.out (.ret (.p (.sc (.bool ((↑tg.length:Int)==0)))) []))) (.test (nn==0) (.test (u6) oO (.out (.ret (.p (.sc (.bool ((↑tg.length:Int)==0)))) []))) (.out (.ret (sB false) [])))) (.test (b==0) (.test (u5) (.test (u6) oO (.out (.ret (.p (.sc (.bool ((↑tg.length:Int)==0)))) []))) (.test (nn==0) (.test (u6) oO (.out (.ret (.p (.sc (.bool ((↑tg.length:Int)==0)))) []))) (.out (.ret (sB false) [])))) (.out (.ret (sB false) []))))
def fL:aC:=
 (.out (.ret (sB false) []))
def lB (a b nn:Int) (tg:List Int) (u3:Bool) (u4:Bool) (u5:Bool) (u6:Bool):aC:=
 (.test (u3) (tB b nn tg u4 u5 u6) (.test (a==0) (tB b nn tg u4 u5 u6) (fL)))
def IC (op r a b nn:Int) (tg:List Int) (ll:List Ins) (le:List Ins) (s:ByteArray) (u1:Bool) (u2:Bool) (u3:Bool) (u4:Bool) (u5:Bool) (u6:Bool):aC:=
 (.call ⟨111,[sI .i64 op],[],.agg [.p (.sc (.bool u1)),.p (.sc (.bool u2)),.p (.sc (.bool u3)),.p (.sc (.bool u4)),.p (.sc (.bool u5)),.p (.sc (.bool u6))],[]⟩
 (.call ⟨112,[sI .i64 op],[],.p (.sc (.string s)),[]⟩
 (.test (s.data.toList==(aeV #[]).data.toList)
 (.must (s.data.toList==(aeV #[]).data.toList)
 (fL))
 (.test (decide (r<0))
 (fL)
 (.test (decide (r>1))
 (.must (decide (r>1))
 (fL))
 (.test (!u1)
 (.test (r != 0)
 (fL)
 (.test (decide ((↑ll.length:Int)>0))
 (.must (decide ((↑ll.length:Int)>0))
 (fL))
 (.test (!u2)
 (.test (decide ((↑le.length:Int)>0))
 (fL)
 (lB a b nn tg u3 u4 u5 u6))
 (lB a b nn tg u3 u4 u5 u6))))
 (.test (!u2)
 (.test (decide ((↑le.length:Int)>0))
 (fL)
 (lB a b nn tg u3 u4 u5 u6))
 (lB a b nn tg u3 u4 u5 u6))))))))
theorem N2 (op r a b nn:Int) (tg:List Int) (ll:List Ins) (le:List Ins) (s:ByteArray) (u1:Bool) (u2:Bool) (u3:Bool) (u4:Bool) (u5:Bool) (u6:Bool):aH ab5 env (XT op r a b nn tg ll le s u1 u2 u3 u4 u5 u6) 1000000 95 ([dR op r a b nn tg ll le]) ([]) acd=IC op r a b nn tg ll le s u1 u2 u3 u4 u5 u6:=by kernel_rfl
def nm (op:Int):ByteArray:=if op<0∨256≤op then⟨#[]⟩ else Sj.getD op.toNat ⟨#[]⟩
theorem KP (op:Int):an ab5 env 112 [sI .i64 op] [] (.p (.sc (.string (nm op)))) []:=by
 refine af aM (NZ op) ?_
 simp only[Iz,aC.ok,decide_eq_true_eq,decide_eq_false_iff_not]
 have hlen:(Sj.map fun s=>(AV.p (PV.sc (.string s)))).length=256:=by kernel_rfl
 refine⟨fun h=> ?_,fun h=>⟨fun h2=> ?_,fun h2=>⟨XP,?_,?_,?_⟩⟩⟩
 · rw[nm,if_pos (.inl h)]
 · rw[nm,if_pos (.inr h2)]
 · simp[bp];omega
 · have hl:op.toNat<(Sj.map fun s=>(AV.p (PV.sc (.string s)))).length:=by rw[hlen];omega
   rw[Nat.mul_one,cb,bm hl,Option.getD_some,List.getElem_map,cb,bm (by simpa using hl),Option.getD_some]
 · rw[nm,if_neg (by omega)]
def rH (op:Int):Bool:=decide (op=40∨op=44∨op=45∨op=46∨op=47∨op=54∨op=58∨op=59)
def GQ (op:Int):Int:=if op=40∨op=54 then 2 else if op=46∨op=47∨op=59 then 1 else 0
def N3 (op:Int):Bool:=decide (op=2∨op=3∨op=4)
def N4 (op:Int):Bool:=decide (op=12∨op=13∨op=16∨op=17∨(32≤op∧op≤36))
theorem qg (op:Int):an ab5 env 127 [sI .i64 op] [] (.aA [sI .u32 (GQ op),sB (rH op)]) []:=by
 refine af aM (N0 op) ?_
 simp only[IA,aC.ok,beq_iff_eq,beq_eq_false_iff_ne]
 repeat' first | apply And.intro | (intro h)
 all_goals first | assumption | (simp only[GQ,rH];simp_all;done)
def ace (op:Int):AV:= .agg [sB (N3 op),sB (decide (op=4)),sB (rH op||N4 op||decide (op=14)),sB (rH op),sB (decide (op=65)),sB (decide (op=14))]
theorem XU {op:Int} {x1 x2 x3 x4 x5 x6:Bool} (h1:x1=true↔N3 op=true) (h2:x2=true↔op=4) (h3:x3=true↔rH op=true∨N4 op=true∨op=14) (h4:x4=true↔rH op=true) (h5:x5=true↔op=65) (h6:x6=true↔op=14) :
  Out.ret (.agg [.p (.sc (.bool x1)),.p (.sc (.bool x2)),.p (.sc (.bool x3)),.p (.sc (.bool x4)),.p (.sc (.bool x5)),.p (.sc (.bool x6))]) []=Out.ret (ace op) []:=by
 obtain rfl:x1=N3 op:=aeW.2 h1
 obtain rfl:x2=decide (op=4):=aeW.2 (by rw[h2,decide_eq_true_eq])
 obtain rfl:x3=(rH op||N4 op||decide (op=14)):=aeW.2 (by rw[h3,ib,ib,decide_eq_true_eq,or_assoc])
 obtain rfl:x4=rH op:=aeW.2 h4
 obtain rfl:x5=decide (op=65):=aeW.2 (by rw[h5,decide_eq_true_eq])
 obtain rfl:x6=decide (op=14):=aeW.2 (by rw[h6,decide_eq_true_eq])
 rfl
theorem Eh {op:Int}:rH op=true↔(op=40∨op=44∨op=45∨op=46∨op=47∨op=54∨op=58∨op=59):=decide_eq_true_iff
theorem N5 {op:Int}:N3 op=true↔(op=2∨op=3∨op=4):=decide_eq_true_iff
theorem N6 {op:Int}:N4 op=true↔(op=12∨op=13∨op=16∨op=17∨(32≤op∧op≤36)):=decide_eq_true_iff
set_option maxHeartbeats 2000000 in
theorem KQ (op:Int):an ab5 env 111 [sI .i64 op] [] (ace op) []:=by
 refine af aM (N1 op (GQ op) (rH op)) ?_
 simp only[IB,fc,aC.ok,beq_iff_eq,beq_eq_false_iff_ne]
 refine⟨qg op,?_⟩
 rw[←Bool.not_eq_true,Eh]
 repeat' first | apply And.intro | (intro h)
 all_goals first | assumption | (refine XU ?_ ?_ ?_ ?_ ?_ ?_<;>simp only[Eh,N5,N6,true_iff,Bool.false_eq_true,false_iff]<;>omega)
def vq (e0 u1 u2 u3 u4 u5 u6 e1 e2 e3 e4 e5 e6 e7 e8 e9:Bool):Bool:= !e0&&(!e1&&(!e2&&((u1 || !(e3||e4))&&((u2 || !e5)&&((u3||e6)&&((u4||e7)&&((u5||e8)&&(u6||e9))))))))
set_option maxHeartbeats 4000000 in
theorem XV (op r a b nn:Int) (tg:List Int) (ll le:List Ins) (s:ByteArray) (u1 u2 u3 u4 u5 u6:Bool) (h1:an ab5 env 111 [sI .i64 op] [] (.agg [sB u1,sB u2,sB u3,sB u4,sB u5,sB u6]) []) (h2:an ab5 env 112 [sI .i64 op] [] (.p (.sc (.string s))) []) :
  an ab5 env 95 [dR op r a b nn tg ll le] [] (sB (vq (s.data.toList==(aeV #[]).data.toList) u1 u2 u3 u4 u5 u6 (decide (r<0)) (decide (r>1)) (r != 0) (decide ((ll.length:Int)>0)) (decide ((le.length:Int)>0)) (a==0) (b==0) (nn==0) ((tg.length:Int)==0))) []:=by
 refine af aM (N2 op r a b nn tg ll le s u1 u2 u3 u4 u5 u6) ?_
 simp only[IC,tB,fL,lB,bN,aC.ok]
 refine⟨h1,h2,?_⟩
 generalize (s.data.toList==(aeV #[]).data.toList)=e0
 generalize decide (r<0)=e1
 generalize decide (r>1)=e2
 generalize (r != 0)=e3
 generalize decide ((ll.length:Int)>0)=e4
 generalize decide ((le.length:Int)>0)=e5
 generalize (a==0)=e6
 generalize (b==0)=e7
 generalize (nn==0)=e8
 generalize ((tg.length:Int)==0)=e9
 cases e0
 case true=>simp[vq]
 cases e1
 case true=>simp[vq]
 cases e2
 case true=>simp[vq]
 cases u1<;>cases e3<;>cases e4<;>(try (simp[vq];done))<;>cases u2<;>cases e5<;>(try (simp[vq];done))<;>cases u3<;>cases e6<;>(try (simp[vq];done))<;>cases u4<;>cases e7<;>(try (simp[vq];done))<;>cases u5<;>cases e8<;>(try (simp[vq];done))<;>cases u6<;>simp[vq]
def vr:Ins→Bool
 |.mk op r a b nn tg ll le=>vq ((nm op).data.toList==(aeV #[]).data.toList) (N3 op) (decide (op=4)) (rH op||N4 op||decide (op=14)) (rH op) (decide (op=65)) (decide (op=14)) (decide (r<0)) (decide (r>1)) (r != 0) (decide ((ll.length:Int)>0)) (decide ((le.length:Int)>0)) (a==0) (b==0) (nn==0) ((tg.length:Int)==0)
theorem Bc (x:Ins):an ab5 env 95 [S6 x] [] (sB (vr x)) []:=by
 obtain⟨op,r,a,b,nn,tg,ll,le⟩:=x
 exact XV op r a b nn tg ll le (nm op) _ _ _ _ _ _ (KQ op) (KP op)
end Go.Proofs.YtjfgfhaoeicpdaaGreatDoor.N
end
