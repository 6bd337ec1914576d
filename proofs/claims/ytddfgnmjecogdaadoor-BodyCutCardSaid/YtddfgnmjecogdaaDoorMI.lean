import Derived.Test.YtddfgnmjecogdaaDoorMH
import Derived.Test.YtddfgnmjecogdaaDoorMG
open Nat renaming le_refl→ch,beq→a6,eq_of_beq_eq_true→a8,ble_eq→TF,sub_self→S0,zero_add→rh,zero_le→S3
open ByteArray renaming mk→TG
open Go.Proofs.Tryd renaming prog→ae
open Go.IntKind renaming u8→TH,i32→TI,u32→Tp,i64→tl
open List renaming length_append→dC,length_cons→od,length_nil→Tr,getD_eq_getElem?_getD→dd,getElem?_append_right→SK,getElem?_eq_getElem→da,getElem?_set_ne→ov,map_cons→pj,map_nil→Hb,nil_append→SX
open Bool renaming and_eq_true→di,true_eq_false→TJ,eq_iff_iff→TK,false_eq_true→pC,or_eq_true→kd
open Go.Fn renaming func→TB
open BitVec renaming ofInt→df,toNat_ofInt→TL
open Int renaming fdiv_eq_ediv_of_nonneg→TM,lt_of_le_of_lt→TN
noncomputable section
section
namespace Go.Proofs.YtddfgnmjecogdaaDoor.N
open Go Go.Am
def Pe (f:FuncId) (_:List AV) (_:Mem):Option (AV×Mem):=cond (a6 f 63) (some (.agg (Hl.map fun s=> .p (.sc (.string s))),[])) none
def Pf (op:Int):FuncId→Nat→Nat→Option (AV→AV):=eP [(44,4,2,.p (.sc (.string (Hl.getD op.toNat ⟨#[]⟩))))]
def Pg (_op:Int) (n:Int) (st:Bool) (f:FuncId) (_:List AV) (_:Mem):Option (AV×Mem):=cond (a6 f 53) (some (.bn [sI .u32 n,sB st],[])) none
def Ph (_op _r _a _b _nn:Int) (_tg:List Int) (_ll _le:List Ins) (s:ByteArray) (u1 u2 u3 u4 u5 u6:Bool) (f:FuncId) (_:List AV) (_:Mem):Option (AV×Mem):=cond (a6 f 44) (some (.p (.sc (.string s)),[])) (cond (a6 f 73) (some (.agg [sB u1,sB u2,sB u3,sB u4,sB u5,sB u6],[])) none)
def KJ (op:Int):hJ:=qa Pe cK [] [(44,2,3),(44,0,0)] [(44,4,2)] (Pf op)
def MT:Sc:=(.fork (.lit .fin) .fin)
def C8 (op:Int):aP:=
 (.test (decide (op<0))
 (.out (.ret (.p (.sc (.string (TG #[])))) []))
 (.test (decide (op≥256))
 (.out (.ret (.p (.sc (.string (TG #[])))) []))
 (.call ⟨63,[],[],.agg (Hl.map fun s=> .p (.sc (.string s))),[]⟩
 (.must (fG op 256&&(op.toNat*1).blt 256&&true)
 (.need ((Hl.map fun s=>AV.p (PV.sc (.string s))).getD (op.toNat*1) AV.af=AV.p (PV.sc (Value.string (Hl.getD op.toNat (TG #[])))))
 (.out (.ret (.p (.sc (.string (Hl.getD op.toNat (TG #[]))))) [])))))))
theorem F5 (op:Int):dJ ae env (KJ op) 1000000 44 ([sI tl op]) ([]) MT=C8 op:=by kernel_rfl
def KK:hJ:=gk eK cK [] [(53,0,0),(53,0,1),(53,0,2),(53,0,4),(53,0,3),(53,0,5),(53,0,7),(53,0,6)] []
def MU:Sc:=(.fork (.yes .fin) (.fork .fin (.fork (.yes .fin) (.fork (.yes .fin) (.fork .fin (.fork (.yes .fin) (.fork (.yes .fin) .fin)))))))
def C9 (op:Int):aP:=
 (.test (op==40)
 (.must (op==40)
 (.out (.ret (.bn [sI .u32 2,sB true]) [])))
 (.test (op==54)
 (.out (.ret (.bn [sI .u32 2,sB true]) []))
 (.test (op==46)
 (.must (op==46)
 (.out (.ret (.bn [sI .u32 1,sB true]) [])))
 (.test (op==47)
 (.must (op==47)
 (.out (.ret (.bn [sI .u32 1,sB true]) [])))
 (.test (op==59)
 (.out (.ret (.bn [sI .u32 1,sB true]) []))
 (.test (op==44)
 (.must (op==44)
 (.out (.ret (.bn [sI .u32 0,sB true]) [])))
 (.test (op==45)
 (.must (op==45)
 (.out (.ret (.bn [sI .u32 0,sB true]) [])))
 (.test (op==58)
 (.out (.ret (.bn [sI .u32 0,sB true]) []))
 (.out (.ret (.bn [sI .u32 0,sB false]) []))))))))))
theorem F6 (op:Int):dJ ae env KK 1000000 53 ([sI tl op]) ([]) MU=C9 op:=by kernel_rfl
def KL (op n:Int) (st:Bool):hJ:=gk (Pg op n st) cK [] [(73,0,0),(73,0,1),(73,0,2),(73,0,3),(73,0,4),(73,0,12),(73,0,5),(73,0,6),(73,0,7),(73,0,8),(73,0,9),(73,0,10),(73,0,11),(73,0,13),(73,0,14)] []
def MV:Sc:=(.fork .fin (.fork (.yes .fin) (.fork .fin (.fork .fin (.fork (.yes .fin) (.fork (.yes .fin) (.fork (.yes .fin) (.fork (.yes .fin) (.fork (.yes .fin) (.fork (.yes .fin) (.fork (.yes .fin) (.fork (.yes .fin) .fin))))))))))))
def eF:aP:=
 (.out (.ret (.agg [sB false,sB false,sB true,sB false,sB false,sB false]) []))
def Da (op n:Int) (st:Bool):aP:=
 (.call ⟨53,[sI .i64 op],[],.bn [sI .u32 n,.p (.sc (.bool st))],[]⟩
 (.test (st)
 (.out (.ret (.agg [sB false,sB false,sB true,sB true,sB false,sB false]) []))
 (.test (op==2)
 (.must (op==2)
 (.out (.ret (.agg [sB true,sB false,sB false,sB false,sB false,sB false]) [])))
 (.test (op==3)
 (.out (.ret (.agg [sB true,sB false,sB false,sB false,sB false,sB false]) []))
 (.test (op==4)
 (.out (.ret (.agg [sB true,sB true,sB false,sB false,sB false,sB false]) []))
 (.test (op==12)
 (.must (op==12)
 (eF))
 (.test (op==13)
 (.must (op==13)
 (eF))
 (.test (op==16)
 (.must (op==16)
 (eF))
 (.test (op==17)
 (.must (op==17)
 (eF))
 (.test (op==32)
 (.must (op==32)
 (eF))
 (.test (op==33)
 (.must (op==33)
 (eF))
 (.test (op==34)
 (.must (op==34)
 (eF))
 (.test (op==35)
 (.must (op==35)
 (eF))
 (.test (op==36)
 (eF)
 (.test (op==14)
 (.out (.ret (.agg [sB false,sB false,sB true,sB false,sB false,sB true]) []))
 (.test (op==65)
 (.out (.ret (.agg [sB false,sB false,sB false,sB false,sB true,sB false]) []))
 (.out (.ret (.agg [sB false,sB false,sB false,sB false,sB false,sB false]) []))))))))))))))))))
theorem F7 (op n:Int) (st:Bool):dJ ae env (KL op n st) 1000000 73 ([sI tl op]) ([]) MV=Da op n st:=by kernel_rfl
def KM (op r a b nn:Int) (tg:List Int) (ll:List Ins) (le:List Ins) (s:ByteArray) (u1:Bool) (u2:Bool) (u3:Bool) (u4:Bool) (u5:Bool) (u6:Bool):hJ:=gk (Ph op r a b nn tg ll le s u1 u2 u3 u4 u5 u6) cK [] [(50,0,0),(50,0,3),(50,4,4),(50,0,1),(50,5,4),(50,5,8),(50,0,2),(50,6,4),(50,8,3),(50,8,11),(50,8,20),(50,8,29),(50,8,26),(50,8,17),(50,8,8)] []
def MW:Sc:=(.fork (.yes .fin) (.fork (.lit (.lit .fin)) (.fork (.yes .fin) (.fork (.fork (.lit (.lit .fin)) (.fork (.yes .fin) (.fork (.fork .fin (.fork (.lit (.fork (.lit (.fork (.lit .fin) .fin)) (.fork (.fork (.lit .fin) .fin) (.lit .fin)))) (.fork (.fork (.lit (.fork (.lit .fin) .fin)) (.fork (.fork (.lit .fin) .fin) (.lit .fin))) (.lit (.lit .fin))))) (.lit (.fork (.lit (.fork (.lit (.fork (.lit .fin) .fin)) (.fork (.fork (.lit .fin) .fin) (.lit .fin)))) (.fork (.fork (.lit (.fork (.lit .fin) .fin)) (.fork (.fork (.lit .fin) .fin) (.lit .fin))) (.lit (.lit .fin)))))))) (.lit (.fork (.fork .fin (.fork (.lit (.fork (.lit (.fork (.lit .fin) .fin)) (.fork (.fork (.lit .fin) .fin) (.lit .fin)))) (.fork (.fork (.lit (.fork (.lit .fin) .fin)) (.fork (.fork (.lit .fin) .fin) (.lit .fin))) (.lit (.lit .fin))))) (.lit (.fork (.lit (.fork (.lit (.fork (.lit .fin) .fin)) (.fork (.fork (.lit .fin) .fin) (.lit .fin)))) (.fork (.fork (.lit (.fork (.lit .fin) .fin)) (.fork (.fork (.lit .fin) .fin) (.lit .fin))) (.lit (.lit .fin)))))))))))
def qZ (b nn:Int) (tg:List Int) (u4:Bool) (u5:Bool) (u6:Bool):aP:=
 (.test (u4) (.test (u5) (.test (u6) Jx (.out (.ret (.p (.sc (.bool ((↑tg.length:Int)==0)))) []))) (.test (nn==0) (.test (u6) Jx (.out (.ret (.p (.sc (.bool ((↑tg.length:Int)==0)))) []))) (.out (.ret (sB false) [])))) (.test (b==0) (.test (u5) (.test (u6) Jx (.out (.ret (.p (.sc (.bool ((↑tg.length:Int)==0)))) []))) (.test (nn==0) (.test (u6) Jx (.out (.ret (.p (.sc (.bool ((↑tg.length:Int)==0)))) []))) (.out (.ret (sB false) [])))) (.out (.ret (sB false) []))))
def fA:aP:=
 (.out (.ret (sB false) []))
def kK (a b nn:Int) (tg:List Int) (u3:Bool) (u4:Bool) (u5:Bool) (u6:Bool):aP:=
 (.test (u3) (qZ b nn tg u4 u5 u6) (.test (a==0) (qZ b nn tg u4 u5 u6) (fA)))
def Db (op r a b nn:Int) (tg:List Int) (ll:List Ins) (le:List Ins) (s:ByteArray) (u1:Bool) (u2:Bool) (u3:Bool) (u4:Bool) (u5:Bool) (u6:Bool):aP:=
 (.call ⟨73,[sI .i64 op],[],.agg [.p (.sc (.bool u1)),.p (.sc (.bool u2)),.p (.sc (.bool u3)),.p (.sc (.bool u4)),.p (.sc (.bool u5)),.p (.sc (.bool u6))],[]⟩
 (.call ⟨44,[sI .i64 op],[],.p (.sc (.string s)),[]⟩
 (.test (s.data.toList==(TG #[]).data.toList)
 (.must (s.data.toList==(TG #[]).data.toList)
 (fA))
 (.test (decide (r<0))
 (fA)
 (.test (decide (r>1))
 (.must (decide (r>1))
 (fA))
 (.test (!u1)
 (.test (r != 0)
 (fA)
 (.test (decide ((↑ll.length:Int)>0))
 (.must (decide ((↑ll.length:Int)>0))
 (fA))
 (.test (!u2)
 (.test (decide ((↑le.length:Int)>0))
 (fA)
 (kK a b nn tg u3 u4 u5 u6))
 (kK a b nn tg u3 u4 u5 u6))))
 (.test (!u2)
 (.test (decide ((↑le.length:Int)>0))
 (fA)
 (kK a b nn tg u3 u4 u5 u6))
 (kK a b nn tg u3 u4 u5 u6))))))))
theorem F8 (op r a b nn:Int) (tg:List Int) (ll:List Ins) (le:List Ins) (s:ByteArray) (u1:Bool) (u2:Bool) (u3:Bool) (u4:Bool) (u5:Bool) (u6:Bool):dJ ae env (KM op r a b nn tg ll le s u1 u2 u3 u4 u5 u6) 1000000 50 ([A6 op r a b nn tg ll le]) ([]) MW=Db op r a b nn tg ll le s u1 u2 u3 u4 u5 u6:=by kernel_rfl
def nm (op:Int):ByteArray:=if op<0∨256≤op then⟨#[]⟩ else Hl.getD op.toNat ⟨#[]⟩
theorem eG (op:Int):aO ae env 44 [sI .i64 op] [] (.p (.sc (.string (nm op)))) []:=by
 refine az dy (F5 op) ?_
 simp only[C8,aP.ok,decide_eq_true_eq,decide_eq_false_iff_not]
 have hlen:(Hl.map fun s=>(AV.p (PV.sc (.string s)))).length=256:=by kernel_rfl
 refine⟨fun h=> ?_,fun h=>⟨fun h2=> ?_,fun h2=>⟨KI,?_,?_,?_⟩⟩⟩
 · rw[nm,if_pos (.inl h)]
 · rw[nm,if_pos (.inr h2)]
 · simp[fG];omega
 · have hl:op.toNat<(Hl.map fun s=>(AV.p (PV.sc (.string s)))).length:=by rw[hlen];omega
   rw[Nat.mul_one,dd,da hl,Option.getD_some,List.getElem_map,dd,da (by simpa using hl),Option.getD_some]
 · rw[nm,if_neg (by omega)]
def dO (op:Int):Bool:=decide (op=40∨op=44∨op=45∨op=46∨op=47∨op=54∨op=58∨op=59)
def vJ (op:Int):Int:=if op=40∨op=54 then 2 else if op=46∨op=47∨op=59 then 1 else 0
def dW (op:Int):Bool:=decide (op=2∨op=3∨op=4)
def gI (op:Int):Bool:=decide (op=12∨op=13∨op=16∨op=17∨(32≤op∧op≤36))
theorem oI (op:Int):aO ae env 53 [sI .i64 op] [] (.bn [sI .u32 (vJ op),sB (dO op)]) []:=by
 refine az dy (F6 op) ?_
 simp only[C9,aP.ok,beq_iff_eq,beq_eq_false_iff_ne]
 repeat' first | apply And.intro | (intro h)
 all_goals first | assumption | (simp only[vJ,dO];simp_all;done)
def MX (op:Int):AV:= .agg [sB (dW op),sB (decide (op=4)),sB (dO op||gI op||decide (op=14)),sB (dO op),sB (decide (op=65)),sB (decide (op=14))]
theorem KN {op:Int} {x1 x2 x3 x4 x5 x6:Bool} (h1:x1=true↔dW op=true) (h2:x2=true↔op=4) (h3:x3=true↔dO op=true∨gI op=true∨op=14) (h4:x4=true↔dO op=true) (h5:x5=true↔op=65) (h6:x6=true↔op=14) :
  Out.ret (.agg [.p (.sc (.bool x1)),.p (.sc (.bool x2)),.p (.sc (.bool x3)),.p (.sc (.bool x4)),.p (.sc (.bool x5)),.p (.sc (.bool x6))]) []=Out.ret (MX op) []:=by
 obtain rfl:x1=dW op:=TK.2 h1
 obtain rfl:x2=decide (op=4):=TK.2 (by rw[h2,decide_eq_true_eq])
 obtain rfl:x3=(dO op||gI op||decide (op=14)):=TK.2 (by rw[h3,kd,kd,decide_eq_true_eq,or_assoc])
 obtain rfl:x4=dO op:=TK.2 h4
 obtain rfl:x5=decide (op=65):=TK.2 (by rw[h5,decide_eq_true_eq])
 obtain rfl:x6=decide (op=14):=TK.2 (by rw[h6,decide_eq_true_eq])
 rfl
theorem mZ {op:Int}:dO op=true↔(op=40∨op=44∨op=45∨op=46∨op=47∨op=54∨op=58∨op=59):=decide_eq_true_iff
theorem ez {op:Int}:dW op=true↔(op=2∨op=3∨op=4):=decide_eq_true_iff
theorem m4 {op:Int}:gI op=true↔(op=12∨op=13∨op=16∨op=17∨(32≤op∧op≤36)):=decide_eq_true_iff
set_option maxHeartbeats 2000000 in
theorem D9 (op:Int):aO ae env 73 [sI .i64 op] [] (MX op) []:=by
 refine az dy (F7 op (vJ op) (dO op)) ?_
 simp only[Da,eF,aP.ok,beq_iff_eq,beq_eq_false_iff_ne]
 refine⟨oI op,?_⟩
 rw[←Bool.not_eq_true,mZ]
 repeat' first | apply And.intro | (intro h)
 all_goals first | assumption | (refine KN ?_ ?_ ?_ ?_ ?_ ?_<;>simp only[mZ,ez,m4,true_iff,pC,false_iff]<;>omega)
def td (e0 u1 u2 u3 u4 u5 u6 e1 e2 e3 e4 e5 e6 e7 e8 e9:Bool):Bool:= !e0&&(!e1&&(!e2&&((u1 || !(e3||e4))&&((u2 || !e5)&&((u3||e6)&&((u4||e7)&&((u5||e8)&&(u6||e9))))))))
set_option maxHeartbeats 4000000 in
theorem KO (op r a b nn:Int) (tg:List Int) (ll le:List Ins) (s:ByteArray) (u1 u2 u3 u4 u5 u6:Bool) (h1:aO ae env 73 [sI .i64 op] [] (.agg [sB u1,sB u2,sB u3,sB u4,sB u5,sB u6]) []) (h2:aO ae env 44 [sI .i64 op] [] (.p (.sc (.string s))) []) :
  aO ae env 50 [A6 op r a b nn tg ll le] [] (sB (td (s.data.toList==(TG #[]).data.toList) u1 u2 u3 u4 u5 u6 (decide (r<0)) (decide (r>1)) (r != 0) (decide ((ll.length:Int)>0)) (decide ((le.length:Int)>0)) (a==0) (b==0) (nn==0) ((tg.length:Int)==0))) []:=by
 refine az dy (F8 op r a b nn tg ll le s u1 u2 u3 u4 u5 u6) ?_
 simp only[Db,qZ,fA,kK,cJ,aP.ok]
 refine⟨h1,h2,?_⟩
 generalize (s.data.toList==(TG #[]).data.toList)=e0
 generalize decide (r<0)=e1
 generalize decide (r>1)=e2
 generalize (r != 0)=e3
 generalize decide ((ll.length:Int)>0)=e4
 generalize decide ((le.length:Int)>0)=e5
 generalize (a==0)=e6
 generalize (b==0)=e7
 generalize (nn==0)=e8
 generalize ((tg.length:Int)==0)=e9
 cases e0
 case true=>simp[td]
 cases e1
 case true=>simp[td]
 cases e2
 case true=>simp[td]
 cases u1<;>cases e3<;>cases e4<;>(try (simp[td];done))<;>cases u2<;>cases e5<;>(try (simp[td];done))<;>cases u3<;>cases e6<;>(try (simp[td];done))<;>cases u4<;>cases e7<;>(try (simp[td];done))<;>cases u5<;>cases e8<;>(try (simp[td];done))<;>cases u6<;>simp[td]
def nN:Ins→Bool
 |.mk op r a b nn tg ll le=>td ((nm op).data.toList==(TG #[]).data.toList) (dW op) (decide (op=4)) (dO op||gI op||decide (op=14)) (dO op) (decide (op=65)) (decide (op=14)) (decide (r<0)) (decide (r>1)) (r != 0) (decide ((ll.length:Int)>0)) (decide ((le.length:Int)>0)) (a==0) (b==0) (nn==0) ((tg.length:Int)==0)
theorem Ea (x:Ins):aO ae env 50 [Ky x] [] (sB (nN x)) []:=by
 obtain⟨op,r,a,b,nn,tg,ll,le⟩:=x
 exact KO op r a b nn tg ll le (nm op) _ _ _ _ _ _ (D9 op) (eG op)
end Go.Proofs.YtddfgnmjecogdaaDoor.N
end
section
namespace Go.Am
theorem Ie {Q:List Ins→Prop} (h : ∀l,(∀x∈l,Q x.l∧Q x.e)→Q l) : ∀l,Q l:=by
 have key : ∀(N:Nat) (l:List Ins),cL l≤N→Q l:=by
  intro N
  induction N with
  |zero=>
   intro l hl
   cases l with
   |nil=>exact h [] (fun _ hx=>by cases hx)
   |cons x r=>cases x;simp only[cL,sY] at hl;omega
  |succ N ih=>
   intro l hl
   refine h l fun x hx=> ?_
   have hn:sY x≤cL l:=by
    clear hl
    induction l with
    |nil=>cases hx
    |cons y r ih2=>
     simp only[cL]
     cases hx with
     |head=>omega
     |tail _ hx=>have:=ih2 hx;omega
   obtain⟨op,rs,a,b,nn,tg,ll,le⟩:=x
   simp only[sY] at hn
   exact⟨ih ll (by omega),ih le (by omega)⟩
 exact fun l=>key _ l (ch _)
open Classical in
def gX {α:Type} (d:α) (F:List Ins→α) (cs:List PV):α:=if h : ∃l,cs=aa l then F h.choose else d
theorem vK {α:Type} (d:α) (F:List Ins→α) (l:List Ins):gX d F (aa l)=F l:=by
 have h : ∃l',aa l=aa l':=⟨l,rfl⟩
 unfold gX
 rw[dif_pos h,←kJ h.choose_spec]
end Go.Am
end
section
namespace Go.Proofs.YtddfgnmjecogdaaDoor.N
open Go Go.Am
end Go.Proofs.YtddfgnmjecogdaaDoor.N
end
section
namespace Go.Am
open Go.RowKit
section
variable {P:Program} {E:Env} {g:Gh} {m:Mem} {w:World}
theorem Rel.zp (h:Rel g m w) {i:Nat} {l l':List AV} (hb:m[i]? = some (.ac l)) (hl : ∀vs,bO g w l vs→bO g w l' vs) :
  Rel g (m.set i (.ac l')) w∧b7 g m w g (m.set i (.ac l')) w:=by
 have own : ∀(j:Nat) (x:aF),(m.set i (.ac l'))[j]? = some x→x.bU=true → ∃y:aF,m[j]? = some y∧y.bU=true:=fun j x hj ho=>by
  rcases an hj with⟨rfl,_⟩ | ⟨_,q⟩
  · exact⟨_,hb,rfl⟩
  · exact⟨x,q,ho⟩
 refine⟨⟨fun j hj=>h.qm j (by simpa using hj),fun j hj=> ?_,fun j x cs hj hx=> ?_,fun j c hj hc=> ?_,fun j q x x' c hj hq ho ho' hc dx=> ?_,h.there,fun j k1 l1 hj=> ?_⟩,
  ⟨ch _,fun _ _ _=>rfl,fun _ _ p=>⟨p,rfl⟩,fun _ _ p=> .inl p,fun c ho=> ?_,rfl,rfl,rfl⟩⟩
 · rcases an hj with⟨_,q⟩ | ⟨_,q⟩
   · cases q
   · exact h.free j q
 · rcases an hj with⟨rfl,rfl⟩ | ⟨_,q⟩
   · simp only[aF.cells?,Option.some.injEq] at hx
     subst hx
     obtain⟨c',cs',e,q,k1,k2,k3,k4,k5⟩:=h.cells _ _ _ hb rfl
     exact⟨c',cs',e,q,k1,k2,k3,⟨hl _ k4.1,k4.2⟩,k5⟩
   · exact h.cells j x cs q hx
 · rcases an hj with⟨_,q⟩ | ⟨_,q⟩
   · cases q
   · exact h.tok j c q hc
 · obtain⟨y,y1,y2⟩:=own j x hj ho
   obtain⟨z,z1,z2⟩:=own q x' hq ho'
   exact h.inj j q y z c y1 z1 y2 z2 hc dx
 · rcases an hj with⟨_,q⟩ | ⟨_,q⟩
   · cases q
   · exact h.obs j k1 l1 q
 · obtain⟨j,x,hj,hx,hc⟩:=ho
   obtain⟨y,y1,y2⟩:=own j x hj hx
   exact .inl ⟨j,y,y1,y2,hc⟩
def Gh.mX (g:Gh) (b aK:Nat):Gh:=match g.aN b with
 |some c=>g.put aK c (g.lo b) (g.hi b)
 |none=>g
theorem Gh.xW {b aK:Nat} (hf:g.aN aK=none):Ext g w (g.mX b aK) w:=by
 unfold Gh.mX
 cases hc:g.aN b with
 |none=>exact Ext.refl g w
 |some c=>
  refine⟨fun j c' hj=> ?_,fun _ _ p=>⟨p,rfl⟩⟩
  have:j≠aK:=fun e=>by subst e;rw[hf] at hj;cases hj
  simp[Gh.put,this,hj]
theorem Rel.Ig (h:Rel g m w) {b aK:Nat} (hb:m[b]? = some .tok) (hn:m[aK]? = some .free) :
  Rel (g.mX b aK) ((m.set b .dead).set aK .tok) w∧b7 g m w (g.mX b aK) ((m.set b .dead).set aK .tok) w:=by
 have hf:=h.free aK hn
 have ext:=Gh.xW (g:=g) (w:=w) (b:=b) hf
 have hne:b≠aK:=fun e=>by subst e;rw[hb] at hn;cases hn
 cases hc:g.aN b with
 |none=>
  obtain⟨k1,k2⟩:=h.kill b
  have hn':(m.set b .dead)[aK]? = some .free:=by rw[ov hne];exact hn
  obtain⟨t1,t2⟩:=k1.o7 hn'
  have e:g.mX b aK=g:=by unfold Gh.mX;rw[hc]
  rw[e]
  exact⟨t1,k2.trans t2⟩
 |some c=>
  have em:g.mX b aK=g.put aK c (g.lo b) (g.hi b):=by unfold Gh.mX;rw[hc]
  rw[em] at ext ⊢
  have get : ∀j x,((m.set b .dead).set aK .tok)[j]? = some x→(j=aK∧x = .tok)∨x = .dead∨(j≠aK∧j≠b∧m[j]? = some x):=by
   intro j x hj
   rcases an hj with⟨e,q⟩ | ⟨hjn,q⟩
   · exact .inl ⟨e,q⟩
   · rcases an q with⟨_,q⟩ | ⟨lV,q⟩
     · exact .inr (.inl q)
     · exact .inr (.inr ⟨hjn,lV,q⟩)
  have bo : ∀j,j≠aK→(g.put aK c (g.lo b) (g.hi b)).aN j=g.aN j:=fun j hj=>by simp[Gh.put,hj]
  have bi:(g.put aK c (g.lo b) (g.hi b)).aN aK=some c:=by simp[Gh.put]
  have ne : ∀j x c',j≠b→m[j]? = some x→x.bU=true→g.aN j=some c'→c'≠c:=fun j x c' lV hj ho dx e=>lV (h.inj j b x _ c hj hb ho rfl (e▸dx) hc)
  refine⟨⟨fun j hj=> ?_,fun j hj=> ?_,fun j x kk hj hk=> ?_,fun j c' hj dx=> ?_,fun j q x x' c' hj hk ho ho' eL eS=> ?_,h.there,fun j kk ll hj=> ?_⟩,⟨ch _,fun _ _ _=>rfl,fun _ _ p=>⟨p,rfl⟩,fun _ _ p=> .inl p,fun c' ho=> ?_,rfl,rfl,rfl⟩⟩
  · have hl:=aT hn
    simp only[List.length_set] at hj
    rw[bo j (by omega)];exact h.qm j hj
  · rcases get j _ hj with⟨_,e⟩ | e | ⟨hjn,_,e⟩
    · cases e
    · cases e
    · rw[bo j hjn];exact h.free j e
  · rcases get j _ hj with⟨_,e⟩ | e | ⟨hjn,lV,e⟩
    · subst e;cases hk
    · subst e;cases hk
    · obtain⟨c1,cs1,e1,n1,q1,q2,q3,q4,q5⟩:=h.cells j x kk e hk
      exact⟨c1,cs1,e1,n1,(bo j hjn).trans q1,q2,q3,q4.mono ext,q5⟩
  · rcases get j _ hj with⟨rfl,e⟩ | e | ⟨hjn,lV,e⟩
    · rw[bi] at dx
      cases dx
      obtain⟨cs1,e1,n1,q2,q3,q4,q5⟩:=h.tok b c hb hc
      have e1:(g.put j c (g.lo b) (g.hi b)).hi j=g.hi b:=by simp[Gh.put]
      have e2:(g.put j c (g.lo b) (g.hi b)).lo j=g.lo b:=by simp[Gh.put]
      rw[e1,e2]
      exact⟨cs1,_,n1,q2,q3,q4,q5⟩
    · cases e
    · rw[bo j hjn] at dx
      obtain⟨cs1,e1,n1,q2,q3,q4,q5⟩:=h.tok j c' e dx
      have e1:(g.put aK c (g.lo b) (g.hi b)).hi j=g.hi j:=by simp[Gh.put,hjn]
      have e2:(g.put aK c (g.lo b) (g.hi b)).lo j=g.lo j:=by simp[Gh.put,hjn]
      rw[e1,e2]
      exact⟨cs1,_,n1,q2,q3,q4,q5⟩
  · rcases get j _ hj with⟨rfl,e⟩ | e | ⟨hjn,lV,e⟩
    · rcases get q _ hk with⟨rfl,_⟩ | e' | ⟨Fb,L2,e'⟩
      · rfl
      · subst e';simp[aF.bU] at ho'
      · rw[bi] at eL;cases eL
        rw[bo q Fb] at eS
        exact absurd rfl (ne q x' _ L2 e' ho' eS)
    · subst e;simp[aF.bU] at ho
    · rcases get q _ hk with⟨rfl,_⟩ | e' | ⟨Fb,L2,e'⟩
      · rw[bi] at eS;cases eS
        rw[bo j hjn] at eL
        exact absurd rfl (ne j x _ lV e ho eL)
      · subst e';simp[aF.bU] at ho'
      · rw[bo j hjn] at eL;rw[bo q Fb] at eS
        exact h.inj j q x x' c' e e' ho ho' eL eS
  · rcases get j _ hj with⟨rfl,e⟩ | e | ⟨hjn,lV,e⟩
    · cases e
    · cases e
    · obtain⟨c1,o1,vs1,q1,q2,q3,q4,q5,q6⟩:=h.obs j kk ll e
      exact⟨c1,o1,vs1,(bo j hjn).trans q1,q2,q3.mono ext,q4,q5,by simpa[Gh.put,hjn] using q6⟩
  · obtain⟨j,x,hj,hx,qn⟩:=ho
    rcases get j _ hj with⟨rfl,e⟩ | e | ⟨hjn,lV,e⟩
    · rw[bi] at qn;cases qn
      exact .inl ⟨b,_,hb,rfl,hc⟩
    · subst e;simp[aF.bU] at hx
    · rw[bo j hjn] at qn
      exact .inl ⟨j,x,e,hx,qn⟩
theorem dN.F9 {c:bA} {len sz:Nat} {X:List PV} {r:Mem} {o:Out} (hm:c.st.mem = .tok :: .ac [.os (some 0) len sz X]::r) (hc:iJ c=true)
  (h:dN P E {c with st:={c.st with mem:= .dead :: .ac [.os (some (r.length+2)) len sz X]::r++[.tok]}} o):dN P E c o:=by
 refine dN.aq (fun g fr w hr cs=> ?_) h
 obtain⟨f,todo,st⟩:=c
 obtain⟨tm,nt,mem,fix,bS,bI⟩:=st
 dsimp only at hm
 subst hm
 match todo,hc with
 |.code i x::k,_=>
  obtain⟨b,a,q1,q2,q3,q4,q5,q6⟩:=hr
  have gE:Rel g (.tok :: .ac [.os (some 0) len sz X]::r) w:=q5.rel
  obtain⟨f1,f2⟩:=gE.bB 1
  have hb:((.tok :: .ac [.os (some 0) len sz X]::r:Mem)++bB 1)[0]? = some .tok:=rfl
  have hlen:(.tok :: .ac [.os (some 0) len sz X]::r:Mem).length=r.length+2:=rfl
  have hn:((.tok :: .ac [.os (some 0) len sz X]::r:Mem)++bB 1)[r.length+2]? = some .free:=by
   rw[SK (by rw[hlen];exact ch _),hlen,S0];rfl
  have hf:=f1.free _ hn
  have ext:=Gh.xW (g:=g) (w:=w) (b:=0) hf
  obtain⟨m1,m2⟩:=f1.Ig hb hn
  have Az:((((.tok :: .ac [.os (some 0) len sz X]::r:Mem)++bB 1).set 0 .dead).set (r.length+2) .tok)[1]? = some (.ac [.os (some 0) len sz X]):=by
   rw[ov (by omega)];rfl
  obtain⟨z1,z2⟩:=m1.zp Az (l':=[.os (some (r.length+2)) len sz X]) fun vs hv=>by
   match vs,hv with
   |[v],hv=>
    refine⟨?_,trivial⟩
    have hv1:VA (g.mX 0 (r.length+2)) w (.os (some 0) len sz X) v:=hv.1
    cases hv1 with
    |os _ _ _ _ a' cap h' hr'=>
     refine .os _ _ _ _ a' cap h' ?_
     rcases hr' with hr' | ⟨t,b',o',e1,e2,e3,e4,e5,e6⟩
     · exact .inl hr'
     · cases e1
       unfold Gh.mX at e3 e4 e5 ⊢
       cases hc0:g.aN 0 with
       |none=>
        rw[hc0] at e3
        dsimp only at e3
        rw[hc0] at e3;cases e3
       |some c0=>
        rw[hc0] at e3 e4 e5
        dsimp only at e3 e4 e5 ⊢
        have h0:(0:Nat)≠r.length+2:=by omega
        simp only[Gh.put,h0,if_false] at e3 e4 e5
        rw[hc0] at e3
        cases e3
        exact .inr ⟨_,_,o',rfl,e2,by simp[Gh.put],by simpa[Gh.put] using e4,by simpa[Gh.put] using e5,e6⟩
  have hmem:((((.tok :: .ac [.os (some 0) len sz X]::r:Mem)++bB 1).set 0 .dead).set (r.length+2) .tok).set 1 (.ac [.os (some (r.length+2)) len sz X]) = .dead :: .ac [.os (some (r.length+2)) len sz X]::r++[.tok]:=by
   simp[bB]
  rw[hmem] at z1 z2
  refine⟨_,fr,w,Steps.refl _ _,⟨b,a,q1,q2,q3.ext (fun i c q=>(ext.aN i c q).1),q4.ext (fun i c q=>(ext.aN i c q).1),⟨fun k=>(q5.tm k).mono ext,q5.nt,z1,?_,q5.cC.mono fun c o p=>(ext.pure c o p)⟩,q6⟩,(f2.trans m2).trans z2,fun k c' hk dx=> ?_,rfl,rfl,rfl⟩
  · have:=q5.fix
    simp only[dC,od,Tr] at this ⊢
    omega
  · have:=(ext.aN k c' dx)
    exact this
theorem aO.oJ {f:FuncId} {args:List AV} {sz:Nat} {v:AV} {m':Mem} (hz:1≤sz) (h:aO P E f (.os (some 0) 0 sz []::args) [.tok] v m'):aO P E f (.os none 0 0 []::args) [] v m':=by
 refine⟨h.1,fun g w cM cs hr hv hg=> ?_⟩
 have hf:g.aN 0=none:=hr.qm 0 (ch _)
 have J3:Rel g [.tok] w:=by
  have h1:=(hr.bB 1).1
  have h2:=(h1.o7 (i:=0) rfl).1
  exact h2
 have own : ∀c,¬cj g ([.tok]:Mem) c:=fun c ho=>by
  obtain⟨i,b,hi,_,hc⟩:=ho
  match i,hi with
  |0,_=>rw[hf] at hc;cases hc
 match hl:cM.toList,hv with
 |x::xs,hv=>
  have hx:VA g w (.os (some 0) 0 sz []) x:=by
   have h1:VA g w (.os none 0 0 []) x:=hv.1
   cases h1 with
   |os _ _ _ _ a cap h' hr'=>
    have hcap:cap=0:=by
     rcases hr' with h | ⟨t,b,o,e,_⟩
     · exact h
     · cases e
    subst hcap
    exact .os _ _ _ _ a 0 (.lU sz a 0 (.inl hz)) (.inl rfl)
  obtain⟨w',g',cv,fr,s1,s2,s3,s4,s5,s6,s7,s8⟩:=h.2 g w cM cs J3 (by rw[hl];exact⟨hx,hv.2⟩) hg
  refine⟨w',g',cv,fr,s1,s2,s3,s4,s5,⟨s6.size,fun c hc ho=>s6.keep c hc (own c),s6.pure,fun c o hp=> ?_,fun c ho=> ?_,s6.os,s6.tape,s6.output⟩,fun k c hk hc=>absurd hk (Nat.not_lt_zero _),S3 _⟩
  · rcases s6.fresh c o hp with q | q | q
    · exact .inl q
    · exact absurd q (own c)
    · exact .inr (.inr q)
  · rcases s6.owned c ho with q | q
    · exact absurd q (own c)
    · exact .inr q
def vL (n sz j:Nat):qo→qo
 |[]=>[]
 |(k,v)::r=>(k,cond (a6 k j) (.os (some n) 0 sz []) v)::vL n sz j r
theorem VA.oJ {t sz:Nat} {x:Value} (hz:1≤sz) (h:VA g w (.os none 0 0 []) x):VA g w (.os (some t) 0 sz []) x:=by
 cases h with
 |os _ _ _ _ a cap h' hr'=>
  have hcap:cap=0:=by
   rcases hr' with h | ⟨t,b,o,e,_⟩
   · exact h
   · cases e
  subst hcap
  exact .os _ _ _ _ a 0 (.lU sz a 0 (.inl hz)) (.inl rfl)
theorem oK {n sz j:Nat} : ∀{tm:qo},look tm j = .os none 0 0 [] → ∀k,look (vL n sz j tm) k=look tm k∨(look tm k = .os none 0 0 []∧look (vL n sz j tm) k = .os (some n) 0 sz [])
 |[],_,_=> .inl rfl
 |(i,v)::r,h,k=>by
  simp only[look,vL] at h ⊢
  cases hi:a6 i j with
  |true=>
   rw[hi] at h
   cases hk:a6 i k with
   |true=>exact .inr ⟨h,rfl⟩
   |false=>
    simp only[cond_false]
    clear h
    obtain rfl:=a8 hi
    by_cases hr:look r i = .os none 0 0 []
    · exact oK hr k
    · exact .inl (vM hk)
  |false=>
   rw[hi] at h
   cases hk:a6 i k with
   |true=>exact .inl rfl
   |false=>exact oK h k
where
 vM {n sz i k:Nat} (hk:a6 i k=false) : ∀{r:qo},look (vL n sz i r) k=look r k
  |[]=>rfl
  |(a,v)::r=>by
   simp only[look,vL]
   cases ha:a6 a k with
   |true=>
    obtain rfl:=a8 ha
    have:a6 a i=false:=by
     cases Rz:a6 a i with
     |false=>rfl
     |true=>obtain rfl:=a8 Rz;rw[Nat.beq_refl] at hk;cases hk
    rw[this];rfl
   |false=>exact vM hk
theorem dN.oJ {c:bA} {o:Out} (j sz:Nat) (hz:1≤sz) (hj:look c.st.tm j = .os none 0 0 []) (hc:iJ c=true)
  (h:dN P E {c with st:={c.st with tm:=vL c.st.mem.length sz j c.st.tm,mem:=c.st.mem++[.tok]}} o):dN P E c o:=by
 refine dN.aq (fun g fr w hr cs=> ?_) h
 obtain⟨f,todo,st⟩:=c
 obtain⟨tm,nt,mem,fix,bS,bI⟩:=st
 dsimp only at hj h ⊢
 match todo,hc with
 |.code i x::k,_=>
  obtain⟨b,a,q1,q2,q3,q4,q5,q6⟩:=hr
  have gE:Rel g mem w:=q5.rel
  obtain⟨f1,f2⟩:=gE.bB 1
  have hn:(mem++bB 1)[mem.length]? = some .free:=by rw[SK (ch _),S0];rfl
  obtain⟨z1,z2⟩:=f1.o7 hn
  have hmem:(mem++bB 1).set mem.length .tok=mem++[.tok]:=by simp[bB]
  rw[hmem] at z1 z2
  refine⟨g,fr,w,Steps.refl _ _,⟨b,a,q1,q2,q3,q4,⟨fun k=> ?_,q5.nt,z1,?_,q5.cC⟩,q6⟩,f2.trans z2,bf.refl _ _,rfl,rfl,rfl⟩
  · rcases oK (n:=mem.length) (sz:=sz) hj k with e | ⟨e1,e2⟩
    · dsimp only;rw[e];exact q5.tm k
    · dsimp only;rw[e2]
      have:=q5.tm k
      dsimp only at this
      rw[e1] at this
      exact VA.oJ hz this
  · have:=q5.fix
    dsimp only at this ⊢
    rw[dC]
    omega
end
end Go.Am
end
section
set_option linter.unusedSimpArgs false
set_option linter.unusedVariables false
namespace Go.Proofs.YtddfgnmjecogdaaDoor.N
open Go Go.Am
def RA (n:Int) (k:Nat) (X:List PV) (f:FuncId) (_:List AV) (m:Mem):Option (AV×Mem):=cond (a6 f 59) (some (.p (.ps k 1 X),m)) none
def RB (n:Int) (k:Nat) (X:List PV) (f:FuncId) (_:List AV) (m:Mem):Option (AV×Mem):=cond (a6 f 74) (some (.p (.ps k 1 X),m)) none
def MY (n:Int) (k:Nat) (X:List PV):hJ:=gk (RA n k X) cK [] [] []
def Pj:Sc:= .fin
def Ga (n:Int) (k:Nat) (X:List PV):aP:=
 (.call ⟨59,[sI .u32 n,.fn (TB 60) [] []],[],.p (.ps k 1 X),[]⟩
 (.out (.ret (.p (.ps k 1 X)) [])))
theorem Ih (n:Int) (k:Nat) (X:List PV):dJ ae env (MY n k X) 1000000 35 ([sI Tp n]) ([]) Pj=Ga n k X:=by kernel_rfl
def MZ:hJ:=gk eK cK [(59,0)] [] []
def Pk:Sc:= .fin
def Gb (n:Int):aP:=
 (.at (aj ae env 59 0 [sI .u32 n,.fn (TB 60) [] [],ct] ([]) 0 25))
theorem Ii (n:Int):dJ ae env MZ 1000000 59 ([sI Tp n,AV.fn (TB 60) [] []]) ([]) Pk=Gb n:=by kernel_rfl
def KP:hJ:=gk eK cK [(59,0)] [(59,0,1)] [(59,6,3),(59,7,4)]
def M0:Sc:= .fin
def zq (n:Int) (k:Nat) (X:List PV):aP:=
 (.test (n.fdiv 128==0)
 (.must (((k+1)*1).ble cE&&(k+1).ble cE&&true)
 (.out (.ret (.os (some 0) (k+1) 1 (X++[.sc (.int .u8 (TH.wrap (Tp.wrap (↑(df 32 n&&&df 32 127).toNat:Int))))])) [.tok])))
 (.must (((k+1)*1).ble cE&&(k+1).ble cE&&true)
 (.at (aj ae env 59 0 [sI .u32 (n.fdiv 128),.fn (TB 60) [] [],.os (some 0) (k+1) 1 (X++[.sc (.int .u8 (TH.wrap (↑(df 8 (TH.wrap (Tp.wrap (↑(df 32 n&&&df 32 127).toNat:Int)))|||df 8 128).toNat:Int)))])] ([.tok]) 0 25))))
theorem Bb (n:Int) (k:Nat) (X:List PV):grow ae env KP 1000000 true (aj ae env 59 0 ([sI Tp n,AV.fn (TB 60) [] [],AV.os (Option.some 0) k 1 X]) ([aF.tok]) 0 25) M0 atEnd=zq n k X:=by kernel_rfl
def M1 (n:Int) (k:Nat) (X:List PV):hJ:=gk (RB n k X) cK [] [] []
def Pm:Sc:= .fin
def Gc (n:Int) (k:Nat) (X:List PV):aP:=
 (.call ⟨74,[sI .i32 n,.fn (TB 75) [] []],[],.p (.ps k 1 X),[]⟩
 (.out (.ret (.p (.ps k 1 X)) [])))
theorem Ij (n:Int) (k:Nat) (X:List PV):dJ ae env (M1 n k X) 1000000 52 ([sI TI n]) ([]) Pm=Gc n k X:=by kernel_rfl
def M3:hJ:=gk eK cK [(74,0)] [] []
def Pn:Sc:= .fin
def Gd (n:Int):aP:=
 (.at (aj ae env 74 0 [sI .i32 n,.fn (TB 75) [] [],ct] ([]) 0 25))
theorem Ik (n:Int):dJ ae env M3 1000000 74 ([sI TI n,AV.fn (TB 75) [] []]) ([]) Pn=Gd n:=by kernel_rfl
def KQ:hJ:=gk eK cK [(74,0)] [(75,2,3),(75,2,8),(75,2,11),(74,0,1)] [(74,6,3),(74,7,4)]
def M4:Sc:=(.fork (.fork (.lit .fin) (.no (.lit .fin))) (.lit (.fork .fin (.lit .fin))))
def gV (n:Int) (k:Nat) (X:List PV):aP:=
 (.must (((k+1)*1).ble cE&&(k+1).ble cE&&true) (.at (aj ae env 74 0 [sI .i32 (n.fdiv 128),.fn (TB 75) [] [],.os (some 0) (k+1) 1 (X++[.sc (.int .u8 (TH.wrap (↑(df 8 (TH.wrap (TI.wrap (↑(df 32 n&&&df 32 127).toNat:Int)))|||df 8 128).toNat:Int)))])] ([.tok]) 0 25)))
def iY (n:Int) (k:Nat) (X:List PV):aP:=
 (.must (((k+1)*1).ble cE&&(k+1).ble cE&&true) (.out (.ret (.os (some 0) (k+1) 1 (X++[.sc (.int .u8 (TH.wrap (TI.wrap (↑(df 32 n&&&df 32 127).toNat:Int))))])) [.tok])))
def qh (n:Int) (k:Nat) (X:List PV):aP:=
 (.test (n.fdiv 128==0)
 (.test (TH.wrap (↑(df 8 (TH.wrap (TI.wrap (↑(df 32 n&&&df 32 127).toNat:Int)))&&&df 8 64).toNat:Int)==0)
 (iY n k X)
 (.must (!(n.fdiv 128 == -1))
 (gV n k X)))
 (.test (n.fdiv 128 == -1)
 (.test (TH.wrap (↑(df 8 (TH.wrap (TI.wrap (↑(df 32 n&&&df 32 127).toNat:Int)))&&&df 8 64).toNat:Int) != 0)
 (iY n k X)
 (gV n k X))
 (gV n k X)))
theorem Bc (n:Int) (k:Nat) (X:List PV):grow ae env KQ 1000000 true (aj ae env 74 0 ([sI TI n,AV.fn (TB 75) [] [],AV.os (Option.some 0) k 1 X]) ([aF.tok]) 0 25) M4 atEnd=qh n k X:=by kernel_rfl
def bt (l:List Nat):List PV:=l.map fun(c:Nat)=> .sc (.int .u8 (c:Int))
theorem dB (l:List Nat):(bt l).length=l.length:=by simp[bt]
theorem xX (a b:List Nat):bt (a++b)=bt a++bt b:=by simp[bt]
theorem Dc (X:List PV) (c:Nat) (l:List Nat):(X++[.sc (.int .u8 (c:Int))])++bt l=X++bt (c::l):=by simp[bt]
def pU:Nat→Nat→List Nat
 |0,n=>[n%128]
 |f+1,n=>if n / 128=0 then[n%128] else(n%128+128)::pU f (n / 128)
def pS:Nat→Int→List Nat
 |0,n=>[(n%128).toNat]
 |f+1,n=>if -64≤n∧n≤63 then[(n%128).toNat] else((n%128).toNat+128)::pS f (n / 128)
theorem q9 : ∀(f n:Nat),(pU f n).length≤f+1
 |0,_=>ch _
 |f+1,n=>by
  unfold pU
  split
  · simp
  · simp only[od];have:=q9 f (n / 128);omega
theorem Cm : ∀(f:Nat) (n:Int),(pS f n).length≤f+1
 |0,_=>ch _
 |f+1,n=>by
  unfold pS
  split
  · simp
  · simp only[od];have:=Cm f (n / 128);omega
theorem rj (n:Int):(df 32 n&&&df 32 127).toNat=(n%128).toNat:=by
 rw[BitVec.toNat_and,TL,TL,show((127:Int)%((2 ^ 32:Nat):Int)).toNat=2 ^ 7-1 from by decide,Nat.and_two_pow_sub_one_eq_mod]
 omega
theorem Ge : ∀m:Nat,m<128→(df 8 (m:Int)|||df 8 128).toNat=m+128:=by decide +kernel
theorem Jy : ∀m:Nat,m<128→(df 8 (m:Int)&&&df 8 64).toNat=(if m<64 then 0 else 64):=by decide +kernel
theorem Cn {n:Int} (h0:0≤n) (h1:n<256):TH.wrap n=n:=by rw[Qo];omega
theorem Dd {n:Int} (h0 : -2147483648≤n) (h1:n<2147483648):TI.wrap n=n:=by rw[MI];omega
theorem Il : ∀(f n:Nat) (X:List PV),n<128 ^ (f+1)→n<4294967296→X.length+f≤1000000000000→f≤100 →
  dN ae env (aj ae env 59 0 [sI .u32 n,.fn (.func 60) [] [],.os (some 0) X.length 1 X] [.tok] 0 25) (.ret (.os (some 0) (X++bt (pU f n)).length 1 (X++bt (pU f n))) [.tok]):=by
 have dK:cE=70368744177664:=rfl
 intro f
 induction f with
 |zero=>
  intro n X h1 h2 h3 _
  have h1':n<128:=by simpa using h1
  have d:(n:Int).fdiv 128=0:=by rw[TM _ (by decide)];omega
  have e1:(((n:Int)%128).toNat:Int)=((n%128:Nat):Int):=by omega
  refine aD dy (Bb n X.length X) ?_
  simp(disch:=omega) only[zq,aP.ok,d,rj,e1,C5,Cn,dK,TF,di,and_true,pU,bt,pj,Hb,dC,od,Tr]
  simp only[beq_self_eq_true,TJ,false_implies,true_implies,and_true]
  exact⟨by omega,by omega⟩
 |succ f ih=>
  intro n X h1 h2 h3 hf
  have d:(n:Int).fdiv 128=((n / 128:Nat):Int):=by rw[TM _ (by decide)];omega
  have e1:(((n:Int)%128).toNat:Int)=((n%128:Nat):Int):=by omega
  have e2:=Ge (n%128) (by omega)
  refine aD dy (Bb n X.length X) ?_
  simp(disch:=omega) only[zq,aP.ok,d,rj,e1,e2,C5,Cn,dK,TF,di,and_true]
  refine⟨fun h=>⟨⟨by omega,by omega⟩,?_⟩,fun h=>⟨⟨by omega,by omega⟩,?_⟩⟩
  · have h0:n / 128=0:=by have:=eq_of_beq h;omega
    simp[pU,h0,bt]
  · have h0 : ¬n / 128=0:=by intro e;rw[e] at h;cases h
    have k:=ih (n / 128) (X++[.sc (.int .u8 ((n%128+128:Nat):Int))]) (by rw[Nat.pow_succ] at h1;exact Nat.div_lt_of_lt_mul (by rw[Nat.mul_comm];exact h1)) (by omega) (by simp only[dC,od,Tr];omega) (by omega)
    have e3:pU (f+1) n=(n%128+128)::pU f (n / 128):=by rw[pU,if_neg h0]
    rw[Dc] at k
    rw[e3]
    simpa only[dC,od,Tr,rh] using k
theorem aO.Gf {f:FuncId} {args:List AV} {n:Nat} {X:List PV} (h:aO ae env f args [] (.os (some 0) n 1 X) [.tok]):aO ae env f args [] (.p (.ps n 1 X)) []:=aO.pure h
theorem Eb (n:Nat) (h:n<4294967296):aO ae env 35 [sI .u32 n] [] (.p (.ps (pU 4 n).length 1 (bt (pU 4 n)))) []:=by
 refine az dy (Ih n (pU 4 n).length (bt (pU 4 n))) ?_
 simp only[Ga,aP.ok,and_true]
 refine aO.Gf (az dy (Ii n) ?_)
 simp only[Gb,cJ,aP.ok]
 have k:=Il 4 n [] (by omega) h (by simp) (by omega)
 rw[SX,dB] at k
 exact dN.oJ 5 1 (ch 1) rfl rfl k
theorem Im : ∀(f:Nat) (n:Int) (X:List PV),-(64*128 ^ f)≤n→n<64*128 ^ f → -2147483648≤n→n<2147483648→X.length+f≤1000000000000→f≤100 →
  dN ae env (aj ae env 74 0 [sI .i32 n,.fn (.func 75) [] [],.os (some 0) X.length 1 X] [.tok] 0 25) (.ret (.os (some 0) (X++bt (pS f n)).length 1 (X++bt (pS f n))) [.tok]):=by
 have dK:cE=70368744177664:=rfl
 intro f
 induction f with
 |zero=>
  intro n X h1 h2 h4 h5 h3 _
  have d:n.fdiv 128=n / 128:=TM _ (by decide)
  obtain⟨m,hm⟩ : ∃m:Nat,(n%128).toNat=m:=⟨_,rfl⟩
  have hm1:n=128*(n / 128)+m∧m<128:=by omega
  have e1:=Jy m hm1.2
  have e2:=Ge m hm1.2
  refine aD dy (Bc n X.length X) ?_
  by_cases h6:m<64
  · have h7:n / 128=0:=by omega
    rw[if_pos h6] at e1
    simp(disch:=omega) only[qh,gV,iY,aP.ok,d,rj,hm,Dd,Cn,e1,e2,dK,TF,di,and_true,h7,show((0:Int)==0)=true from rfl,TJ,false_implies,true_implies,show(((0:Nat):Int)==0)=true from rfl,pS,bt,pj,Hb,dC,od,Tr]
    exact⟨by omega,by omega⟩
  · have h7:n / 128 = -1:=by omega
    rw[if_neg h6] at e1
    simp(disch:=omega) only[qh,gV,iY,aP.ok,d,rj,hm,Dd,Cn,e1,e2,dK,TF,di,and_true,h7,show((-1:Int)==0)=false from rfl,show((-1:Int) == -1)=true from rfl,TJ,pC,false_implies,true_implies,true_and,show(((64:Nat):Int) != 0)=true from rfl,pS,bt,pj,Hb,dC,od,Tr]
    exact⟨by omega,by omega⟩
 |succ f ih=>
  intro n X h1 h2 h4 h5 h3 hf
  have d:n.fdiv 128=n / 128:=TM _ (by decide)
  obtain⟨m,hm⟩ : ∃m:Nat,(n%128).toNat=m:=⟨_,rfl⟩
  have hm1:n=128*(n / 128)+m∧m<128:=by omega
  have e1:=Jy m hm1.2
  have e2:=Ge m hm1.2
  have hb:(X.length+1)*1≤70368744177664∧X.length+1≤70368744177664:=⟨by omega,by omega⟩
  have more : ¬(-64≤n∧n≤63)→dN ae env (aj ae env 74 0 [sI .i32 (n / 128),.fn (.func 75) [] [],.os (some 0) (X.length+1) 1 (X++[.sc (.int .u8 ((m+128:Nat):Int))])] [.tok] 0 25) (.ret (.os (some 0) (X++bt (pS (f+1) n)).length 1 (X++bt (pS (f+1) n))) [.tok]):=fun h0=>by
   have hp:(128:Int) ^ (f+1)=128*128 ^ f:=by rw[Int.pow_succ,Int.mul_comm]
   have k:=ih (n / 128) (X++[.sc (.int .u8 ((m+128:Nat):Int))]) (by rw[hp] at h1;omega) (by rw[hp] at h2;omega) (by omega) (by omega) (by simp only[dC,od,Tr];omega) (by omega)
   have e3:pS (f+1) n=(m+128)::pS f (n / 128):=by rw[pS,if_neg h0,hm]
   rw[Dc] at k
   rw[e3]
   simpa only[dC,od,Tr,rh] using k
  have last:(-64≤n∧n≤63)→Out.ret (.os (some 0) (X.length+1) 1 (X++[.sc (.int .u8 (m:Int))])) [.tok] = .ret (.os (some 0) (X++bt (pS (f+1) n)).length 1 (X++bt (pS (f+1) n))) [.tok]:=fun h0=>by
   rw[pS,if_pos h0,hm];simp[bt]
  refine aD dy (Bc n X.length X) ?_
  by_cases h6:m<64
  · rw[if_pos h6] at e1
    simp(disch:=omega) only[qh,gV,iY,aP.ok,d,rj,hm,Dd,Cn,e1,e2,dK,TF,di,and_true,TJ,pC,false_implies,true_implies,true_and,show(((0:Nat):Int)==0)=true from rfl,show(((0:Nat):Int) != 0)=false from rfl]
    refine⟨fun h=>⟨hb,last ?_⟩,fun h=>⟨fun _=>⟨hb,more ?_⟩,fun _=>⟨hb,more ?_⟩⟩⟩
    · have:n / 128=0:=eq_of_beq h
      omega
    · have : ¬n / 128=0:=fun e=>by rw[e] at h;cases h
      omega
    · have : ¬n / 128=0:=fun e=>by rw[e] at h;cases h
      omega
  · rw[if_neg h6] at e1
    simp(disch:=omega) only[qh,gV,iY,aP.ok,d,rj,hm,Dd,Cn,e1,e2,dK,TF,di,and_true,TJ,pC,false_implies,true_implies,true_and,show(((64:Nat):Int)==0)=false from rfl,show(((64:Nat):Int) != 0)=true from rfl]
    refine⟨fun h=>⟨?_,hb,more ?_⟩,fun _=>⟨fun h=>⟨hb,last ?_⟩,fun h=>⟨hb,more ?_⟩⟩⟩
    · have:n / 128=0:=eq_of_beq h
      rw[this];rfl
    · have:n / 128=0:=eq_of_beq h
      omega
    · have:n / 128 = -1:=eq_of_beq h
      omega
    · have : ¬n / 128 = -1:=fun e=>by rw[e] at h;cases h
      omega
theorem Ec (n:Int) (h0 : -2147483648≤n) (h:n<2147483648):aO ae env 52 [sI .i32 n] [] (.p (.ps (pS 4 n).length 1 (bt (pS 4 n)))) []:=by
 refine az dy (Ij n (pS 4 n).length (bt (pS 4 n))) ?_
 simp only[Gc,aP.ok,and_true]
 refine aO.Gf (az dy (Ik n) ?_)
 simp only[Gd,cJ,aP.ok]
 have k:=Im 4 n [] (by omega) (by omega) h0 h (by simp) (by omega)
 rw[SX,dB] at k
 exact dN.oJ 5 1 (ch 1) rfl rfl k
mutual
def iE:Ins→List Nat
 |.mk op r a b nn tg ll le=>(op%256).toNat::(if dW op=true then(if r=1 then 127 else 64)::(gw ll++((if le.length=0 then[] else 5::gw le)++[11]))
    else if op=17 then pU 4 a.toNat++[0]
    else if gI op=true then pU 4 a.toNat
    else if op=14 then pU 4 tg.length++(tg.flatMap (fun t=>pU 4 t.toNat)++pU 4 a.toNat)
    else if op=63∨op=64 then[0]
    else if op=65 then pS 4 nn
    else if dO op=true then pU 4 a.toNat++pU 4 b.toNat
    else[])
def gw:List Ins→List Nat
 |[]=>[]
 |x::r=>iE x++gw r
end
theorem Bd : ∀tg:List Int,(tg.flatMap (fun t=>pU 4 t.toNat)).length≤5*tg.length
 |[]=>ch _
 |t::r=>by
  have:=q9 4 t.toNat
  have:=Bd r
  simp only[List.flatMap_cons,dC,od]
  omega
mutual
theorem De : ∀x:Ins,(iE x).length≤20*lD x
 |.mk op r a b nn tg ll le=>by
  have h1:=lF ll
  have h2:=lF le
  have h3:=q9 4 a.toNat
  have h4:=q9 4 b.toNat
  have h5:=Cm 4 nn
  have h6:=q9 4 tg.length
  have h7:=Bd tg
  simp only[iE,lD,od]
  repeat' split
  all_goals (try simp only[dC,od,Tr])
  all_goals omega
theorem lF : ∀l:List Ins,(gw l).length≤20*eT l
 |[]=>S3 _
 |x::r=>by
  have h1:=De x
  have h2:=lF r
  simp only[gw,eT,dC]
  omega
end
theorem zu {a:Int} (h:(Lit.int .u32 a).wf=true):0≤a∧a<4294967296:=by
 have h:Tp.min≤a∧a≤Tp.max:=by simpa[Lit.wf] using h
 exact⟨h.1,TN h.2 (by decide)⟩
theorem Gg {a:Int} (h:(Lit.int .i32 a).wf=true) : -2147483648≤a∧a<2147483648:=by
 have h:TI.min≤a∧a≤TI.max:=by simpa[Lit.wf] using h
 exact⟨h.1,TN h.2 (by decide)⟩
theorem fB (n:Int):TH.wrap n=((n%256).toNat:Int):=by rw[Qo];omega
def jU (n:Int):Nat:=(pU 4 n.toNat).length
def qU (n:Int):List PV:=bt (pU 4 n.toNat)
def jS (n:Int):Nat:=(pS 4 n).length
def qS (n:Int):List PV:=bt (pS 4 n)
def qL (cs:List PV):List PV:=gX [] (fun l=>bt (gw l)) cs
def jL (cs:List PV):Nat:=gX 0 (fun l=>(gw l).length) cs
theorem iP (l:List Ins):qL (aa l)=bt (gw l):=vK _ _ l
theorem gL (l:List Ins):jL (aa l)=(gw l).length:=vK _ _ l
theorem cT {a:Int} (h:0≤a∧a<4294967296):aO ae env 35 [sI .u32 a] [] (.p (.ps (jU a) 1 (qU a))) []:=by
 have:=Eb a.toNat (by omega)
 rwa [show((a.toNat:Nat):Int)=a by omega] at this
theorem Ed {a:Int} (h : -2147483648≤a∧a<2147483648):aO ae env 52 [sI .i32 a] [] (.p (.ps (jS a) 1 (qS a))) []:=Ec a h.1 h.2
theorem Be (n:Int):jU n≤5:=q9 4 _
theorem M5 (n:Int):jS n≤5:=Cm 4 _
end Go.Proofs.YtddfgnmjecogdaaDoor.N
end
