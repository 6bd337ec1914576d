import Derived.Test.YtncncijedmfpjaaGreatDoorMH
import Derived.Test.YtncncijedmfpjaaGreatDoorMG
open Nat renaming le_refl→dd,beq→bj,eq_of_beq_eq_true→bx,ble_eq→acO,sub_self→QP,zero_add→pD,zero_le→aai
open ByteArray renaming mk→acP
open Go.Proofs.Tryz renaming prog→ae
open Go.IntKind renaming u8→acQ,i32→acR,u32→acu,i64→sa
open List renaming length_append→dT,length_cons→od,length_nil→acA,getD_eq_getElem?_getD→di,getElem?_append_right→Hm,getElem?_eq_getElem→de,getElem?_set_ne→nc,map_cons→uv,map_nil→vb,nil_append→Ps
open Bool renaming and_eq_true→dp,true_eq_false→acS,eq_iff_iff→acT,false_eq_true→pn,or_eq_true→j1
open Go.Fn renaming func→acU
open BitVec renaming ofInt→dk,toNat_ofInt→acV
open Int renaming fdiv_eq_ediv_of_nonneg→acW,lt_of_le_of_lt→acX
noncomputable section
section
namespace Go.Proofs.YtncncijedmfpjaaGreatDoor.N
open Go Go.Am
def aa3 (f:FuncId) (_:List AV) (_:Mem):Option (AV×Mem):=cond (bj f 149) (some (.agg (NU.map fun s=> .p (.sc (.string s))),[])) none
def aa4 (op:Int):FuncId→Nat→Nat→Option (AV→AV):=cu [(136,4,2,.p (.sc (.string (NU.getD op.toNat ⟨#[]⟩))))]
def aa5 (_op:Int) (n:Int) (st:Bool) (f:FuncId) (_:List AV) (_:Mem):Option (AV×Mem):=cond (bj f 139) (some (.aK [sI .u32 n,sB st],[])) none
def aa6 (_op _r _a _b _nn:Int) (_tg:List Int) (_ll _le:List Ins) (s:ByteArray) (u1 u2 u3 u4 u5 u6:Bool) (f:FuncId) (_:List AV) (_:Mem):Option (AV×Mem):=cond (bj f 136) (some (.p (.sc (.string s)),[])) (cond (bj f 135) (some (.agg [sB u1,sB u2,sB u3,sB u4,sB u5,sB u6],[])) none)
def S2 (op:Int):bN:=gI aa3 aC [] [(136,2,3),(136,0,0)] [(136,4,2)] (aa4 op)
def XC:Sc:=(.fork (.lit .fin) .fin)
def Gm (op:Int):aA:=
 (.test (decide (op<0))
 (.out (.ret (.p (.sc (.string (acP #[])))) []))
 (.test (decide (op≥256))
 (.out (.ret (.p (.sc (.string (acP #[])))) []))
 (.call ⟨149,[],[],.agg (NU.map fun s=> .p (.sc (.string s))),[]⟩
 (.must (aM op 256&&(op.toNat*1).blt 256&&true)
 (.need ((NU.map fun s=>AV.p (PV.sc (.string s))).getD (op.toNat*1) AV.aT=AV.p (PV.sc (Value.string (NU.getD op.toNat (acP #[])))))
 (.out (.ret (.p (.sc (.string (NU.getD op.toNat (acP #[]))))) [])))))))
theorem K9 (op:Int):aG ae env (S2 op) 1000000 136 ([sI sa op]) ([]) XC=Gm op:=by kernel_rfl
def S3:bN:=aP aF aC [] [(139,0,0),(139,0,1),(139,0,2),(139,0,4),(139,0,3),(139,0,5),(139,0,7),(139,0,6)] []
def XD:Sc:=(.fork (.yes .fin) (.fork .fin (.fork (.yes .fin) (.fork (.yes .fin) (.fork .fin (.fork (.yes .fin) (.fork (.yes .fin) .fin)))))))
def Gn (op:Int):aA:=
 (.test (op==40)
 (.must (op==40)
 (.out (.ret (.aK [sI .u32 2,sB true]) [])))
 (.test (op==54)
 (.out (.ret (.aK [sI .u32 2,sB true]) []))
 (.test (op==46)
 (.must (op==46)
 (.out (.ret (.aK [sI .u32 1,sB true]) [])))
 (.test (op==47)
 (.must (op==47)
 (.out (.ret (.aK [sI .u32 1,sB true]) [])))
 (.test (op==59)
 (.out (.ret (.aK [sI .u32 1,sB true]) []))
 (.test (op==44)
 (.must (op==44)
 (.out (.ret (.aK [sI .u32 0,sB true]) [])))
 (.test (op==45)
 (.must (op==45)
 (.out (.ret (.aK [sI .u32 0,sB true]) [])))
 (.test (op==58)
 (.out (.ret (.aK [sI .u32 0,sB true]) []))
 (.out (.ret (.aK [sI .u32 0,sB false]) []))))))))))
theorem La (op:Int):aG ae env S3 1000000 139 ([sI sa op]) ([]) XD=Gn op:=by kernel_rfl
def S4 (op n:Int) (st:Bool):bN:=aP (aa5 op n st) aC [] [(135,0,0),(135,0,1),(135,0,2),(135,0,3),(135,0,4),(135,0,12),(135,0,5),(135,0,6),(135,0,7),(135,0,8),(135,0,9),(135,0,10),(135,0,11),(135,0,13),(135,0,14)] []
def XE:Sc:=(.fork .fin (.fork (.yes .fin) (.fork .fin (.fork .fin (.fork (.yes .fin) (.fork (.yes .fin) (.fork (.yes .fin) (.fork (.yes .fin) (.fork (.yes .fin) (.fork (.yes .fin) (.fork (.yes .fin) (.fork (.yes .fin) .fin))))))))))))
def eZ:aA:=
 (.out (.ret (.agg [sB false,sB false,sB true,sB false,sB false,sB false]) []))
def Gp (op n:Int) (st:Bool):aA:=
 (.call ⟨139,[sI .i64 op],[],.aK [sI .u32 n,.p (.sc (.bool st))],[]⟩
 (.test (st)
 (.out (.ret (.agg [sB false,sB false,sB true,sB true,sB false,sB false]) []))
 (.test (op==2)
 (.must (op==2)
 (.out (.ret (.agg [sB true,sB false,sB false,sB false,sB false,sB false]) [])))
 (.test (op==3)
 (.out (.ret (.agg [sB true,sB false,sB false,sB false,sB false,sB false]) []))
 (.test (op==4)
 (.out (.ret (.agg [sB true,sB true,sB false,sB false,sB false,sB false]) []))
 (.test (op==12)
 (.must (op==12)
 (eZ))
 (.test (op==13)
 (.must (op==13)
 (eZ))
 (.test (op==16)
 (.must (op==16)
 (eZ))
 (.test (op==17)
 (.must (op==17)
 (eZ))
 (.test (op==32)
 (.must (op==32)
 (eZ))
 (.test (op==33)
 (.must (op==33)
 (eZ))
 (.test (op==34)
 (.must (op==34)
 (eZ))
 (.test (op==35)
 (.must (op==35)
 (eZ))
 (.test (op==36)
 (eZ)
 (.test (op==14)
 (.out (.ret (.agg [sB false,sB false,sB true,sB false,sB false,sB true]) []))
 (.test (op==65)
 (.out (.ret (.agg [sB false,sB false,sB false,sB false,sB true,sB false]) []))
 (.out (.ret (.agg [sB false,sB false,sB false,sB false,sB false,sB false]) []))))))))))))))))))
theorem Lb (op n:Int) (st:Bool):aG ae env (S4 op n st) 1000000 135 ([sI sa op]) ([]) XE=Gp op n st:=by kernel_rfl
def S5 (op r a b nn:Int) (tg:List Int) (ll:List Ins) (le:List Ins) (s:ByteArray) (u1:Bool) (u2:Bool) (u3:Bool) (u4:Bool) (u5:Bool) (u6:Bool):bN:=aP (aa6 op r a b nn tg ll le s u1 u2 u3 u4 u5 u6) aC [] [(125,0,0),(125,0,3),(125,4,4),(125,0,1),(125,5,4),(125,5,8),(125,0,2),(125,6,4),(125,8,3),(125,8,11),(125,8,20),(125,8,29),(125,8,26),(125,8,17),(125,8,8)] []
def XF:Sc:=(.fork (.yes .fin) (.fork (.lit (.lit .fin)) (.fork (.yes .fin) (.fork (.fork (.lit (.lit .fin)) (.fork (.yes .fin) (.fork (.fork .fin (.fork (.lit (.fork (.lit (.fork (.lit .fin) .fin)) (.fork (.fork (.lit .fin) .fin) (.lit .fin)))) (.fork (.fork (.lit (.fork (.lit .fin) .fin)) (.fork (.fork (.lit .fin) .fin) (.lit .fin))) (.lit (.lit .fin))))) (.lit (.fork (.lit (.fork (.lit (.fork (.lit .fin) .fin)) (.fork (.fork (.lit .fin) .fin) (.lit .fin)))) (.fork (.fork (.lit (.fork (.lit .fin) .fin)) (.fork (.fork (.lit .fin) .fin) (.lit .fin))) (.lit (.lit .fin)))))))) (.lit (.fork (.fork .fin (.fork (.lit (.fork (.lit (.fork (.lit .fin) .fin)) (.fork (.fork (.lit .fin) .fin) (.lit .fin)))) (.fork (.fork (.lit (.fork (.lit .fin) .fin)) (.fork (.fork (.lit .fin) .fin) (.lit .fin))) (.lit (.lit .fin))))) (.lit (.fork (.lit (.fork (.lit (.fork (.lit .fin) .fin)) (.fork (.fork (.lit .fin) .fin) (.lit .fin)))) (.fork (.fork (.lit (.fork (.lit .fin) .fin)) (.fork (.fork (.lit .fin) .fin) (.lit .fin))) (.lit (.lit .fin)))))))))))
def rR (b nn:Int) (tg:List Int) (u4:Bool) (u5:Bool) (u6:Bool):aA:=
 (.test (u4) (.test (u5) (.test (u6) A2 (.out (.ret (.p (.sc (.bool ((↑tg.length:Int)==0)))) []))) (.test (nn==0) (.test (u6) A2 (.out (.ret (.p (.sc (.bool ((↑tg.length:Int)==0)))) []))) (.out (.ret (sB false) [])))) (.test (b==0) (.test (u5) (.test (u6) A2 (.out (.ret (.p (.sc (.bool ((↑tg.length:Int)==0)))) []))) (.test (nn==0) (.test (u6) A2 (.out (.ret (.p (.sc (.bool ((↑tg.length:Int)==0)))) []))) (.out (.ret (sB false) [])))) (.out (.ret (sB false) []))))
def fM:aA:=
 (.out (.ret (sB false) []))
def kW (a b nn:Int) (tg:List Int) (u3:Bool) (u4:Bool) (u5:Bool) (u6:Bool):aA:=
 (.test (u3) (rR b nn tg u4 u5 u6) (.test (a==0) (rR b nn tg u4 u5 u6) (fM)))
def Gq (op r a b nn:Int) (tg:List Int) (ll:List Ins) (le:List Ins) (s:ByteArray) (u1:Bool) (u2:Bool) (u3:Bool) (u4:Bool) (u5:Bool) (u6:Bool):aA:=
 (.call ⟨135,[sI .i64 op],[],.agg [.p (.sc (.bool u1)),.p (.sc (.bool u2)),.p (.sc (.bool u3)),.p (.sc (.bool u4)),.p (.sc (.bool u5)),.p (.sc (.bool u6))],[]⟩
 (.call ⟨136,[sI .i64 op],[],.p (.sc (.string s)),[]⟩
 (.test (s.data.toList==(acP #[]).data.toList)
 (.must (s.data.toList==(acP #[]).data.toList)
 (fM))
 (.test (decide (r<0))
 (fM)
 (.test (decide (r>1))
 (.must (decide (r>1))
 (fM))
 (.test (!u1)
 (.test (r != 0)
 (fM)
 (.test (decide ((↑ll.length:Int)>0))
 (.must (decide ((↑ll.length:Int)>0))
 (fM))
 (.test (!u2)
 (.test (decide ((↑le.length:Int)>0))
 (fM)
 (kW a b nn tg u3 u4 u5 u6))
 (kW a b nn tg u3 u4 u5 u6))))
 (.test (!u2)
 (.test (decide ((↑le.length:Int)>0))
 (fM)
 (kW a b nn tg u3 u4 u5 u6))
 (kW a b nn tg u3 u4 u5 u6))))))))
theorem Lc (op r a b nn:Int) (tg:List Int) (ll:List Ins) (le:List Ins) (s:ByteArray) (u1:Bool) (u2:Bool) (u3:Bool) (u4:Bool) (u5:Bool) (u6:Bool):aG ae env (S5 op r a b nn tg ll le s u1 u2 u3 u4 u5 u6) 1000000 125 ([CL op r a b nn tg ll le]) ([]) XF=Gq op r a b nn tg ll le s u1 u2 u3 u4 u5 u6:=by kernel_rfl
def nm (op:Int):ByteArray:=if op<0∨256≤op then⟨#[]⟩ else NU.getD op.toNat ⟨#[]⟩
theorem H7 (op:Int):au ae env 136 [sI .i64 op] [] (.p (.sc (.string (nm op)))) []:=by
 refine aa aI (K9 op) ?_
 simp only[Gm,aA.ok,decide_eq_true_eq,decide_eq_false_iff_not]
 have hlen:(NU.map fun s=>(AV.p (PV.sc (.string s)))).length=256:=by kernel_rfl
 refine⟨fun h=> ?_,fun h=>⟨fun h2=> ?_,fun h2=>⟨S1,?_,?_,?_⟩⟩⟩
 · rw[nm,if_pos (.inl h)]
 · rw[nm,if_pos (.inr h2)]
 · simp[aM];omega
 · have hl:op.toNat<(NU.map fun s=>(AV.p (PV.sc (.string s)))).length:=by rw[hlen];omega
   rw[Nat.mul_one,di,de hl,Option.getD_some,List.getElem_map,di,de (by simpa using hl),Option.getD_some]
 · rw[nm,if_neg (by omega)]
def eX (op:Int):Bool:=decide (op=40∨op=44∨op=45∨op=46∨op=47∨op=54∨op=58∨op=59)
def A3 (op:Int):Int:=if op=40∨op=54 then 2 else if op=46∨op=47∨op=59 then 1 else 0
def kX (op:Int):Bool:=decide (op=2∨op=3∨op=4)
def jT (op:Int):Bool:=decide (op=12∨op=13∨op=16∨op=17∨(32≤op∧op≤36))
theorem vU (op:Int):au ae env 139 [sI .i64 op] [] (.aK [sI .u32 (A3 op),sB (eX op)]) []:=by
 refine aa aI (La op) ?_
 simp only[Gn,aA.ok,beq_iff_eq,beq_eq_false_iff_ne]
 repeat' first | apply And.intro | (intro h)
 all_goals first | assumption | (simp only[A3,eX];simp_all;done)
def XG (op:Int):AV:= .agg [sB (kX op),sB (decide (op=4)),sB (eX op||jT op||decide (op=14)),sB (eX op),sB (decide (op=65)),sB (decide (op=14))]
theorem S6 {op:Int} {x1 x2 x3 x4 x5 x6:Bool} (h1:x1=true↔kX op=true) (h2:x2=true↔op=4) (h3:x3=true↔eX op=true∨jT op=true∨op=14) (h4:x4=true↔eX op=true) (h5:x5=true↔op=65) (h6:x6=true↔op=14) :
  Out.ret (.agg [.p (.sc (.bool x1)),.p (.sc (.bool x2)),.p (.sc (.bool x3)),.p (.sc (.bool x4)),.p (.sc (.bool x5)),.p (.sc (.bool x6))]) []=Out.ret (XG op) []:=by
 obtain rfl:x1=kX op:=acT.2 h1
 obtain rfl:x2=decide (op=4):=acT.2 (by rw[h2,decide_eq_true_eq])
 obtain rfl:x3=(eX op||jT op||decide (op=14)):=acT.2 (by rw[h3,j1,j1,decide_eq_true_eq,or_assoc])
 obtain rfl:x4=eX op:=acT.2 h4
 obtain rfl:x5=decide (op=65):=acT.2 (by rw[h5,decide_eq_true_eq])
 obtain rfl:x6=decide (op=14):=acT.2 (by rw[h6,decide_eq_true_eq])
 rfl
theorem ny {op:Int}:eX op=true↔(op=40∨op=44∨op=45∨op=46∨op=47∨op=54∨op=58∨op=59):=decide_eq_true_iff
theorem fX {op:Int}:kX op=true↔(op=2∨op=3∨op=4):=decide_eq_true_iff
theorem qu {op:Int}:jT op=true↔(op=12∨op=13∨op=16∨op=17∨(32≤op∧op≤36)):=decide_eq_true_iff
set_option maxHeartbeats 2000000 in
theorem H8 (op:Int):au ae env 135 [sI .i64 op] [] (XG op) []:=by
 refine aa aI (Lb op (A3 op) (eX op)) ?_
 simp only[Gp,eZ,aA.ok,beq_iff_eq,beq_eq_false_iff_ne]
 refine⟨vU op,?_⟩
 rw[←Bool.not_eq_true,ny]
 repeat' first | apply And.intro | (intro h)
 all_goals first | assumption | (refine S6 ?_ ?_ ?_ ?_ ?_ ?_<;>simp only[ny,fX,qu,true_iff,pn,false_iff]<;>omega)
def tK (e0 u1 u2 u3 u4 u5 u6 e1 e2 e3 e4 e5 e6 e7 e8 e9:Bool):Bool:= !e0&&(!e1&&(!e2&&((u1 || !(e3||e4))&&((u2 || !e5)&&((u3||e6)&&((u4||e7)&&((u5||e8)&&(u6||e9))))))))
set_option maxHeartbeats 4000000 in
theorem S7 (op r a b nn:Int) (tg:List Int) (ll le:List Ins) (s:ByteArray) (u1 u2 u3 u4 u5 u6:Bool) (h1:au ae env 135 [sI .i64 op] [] (.agg [sB u1,sB u2,sB u3,sB u4,sB u5,sB u6]) []) (h2:au ae env 136 [sI .i64 op] [] (.p (.sc (.string s))) []) :
  au ae env 125 [CL op r a b nn tg ll le] [] (sB (tK (s.data.toList==(acP #[]).data.toList) u1 u2 u3 u4 u5 u6 (decide (r<0)) (decide (r>1)) (r != 0) (decide ((ll.length:Int)>0)) (decide ((le.length:Int)>0)) (a==0) (b==0) (nn==0) ((tg.length:Int)==0))) []:=by
 refine aa aI (Lc op r a b nn tg ll le s u1 u2 u3 u4 u5 u6) ?_
 simp only[Gq,rR,fM,kW,bu,aA.ok]
 refine⟨h1,h2,?_⟩
 generalize (s.data.toList==(acP #[]).data.toList)=e0
 generalize decide (r<0)=e1
 generalize decide (r>1)=e2
 generalize (r != 0)=e3
 generalize decide ((ll.length:Int)>0)=e4
 generalize decide ((le.length:Int)>0)=e5
 generalize (a==0)=e6
 generalize (b==0)=e7
 generalize (nn==0)=e8
 generalize ((tg.length:Int)==0)=e9
 cases e0
 case true=>simp[tK]
 cases e1
 case true=>simp[tK]
 cases e2
 case true=>simp[tK]
 cases u1<;>cases e3<;>cases e4<;>(try (simp[tK];done))<;>cases u2<;>cases e5<;>(try (simp[tK];done))<;>cases u3<;>cases e6<;>(try (simp[tK];done))<;>cases u4<;>cases e7<;>(try (simp[tK];done))<;>cases u5<;>cases e8<;>(try (simp[tK];done))<;>cases u6<;>simp[tK]
end Go.Proofs.YtncncijedmfpjaaGreatDoor.N
end
section
namespace Go.Proofs.YtncncijedmfpjaaGreatDoor.N
open Go Go.Am
end Go.Proofs.YtncncijedmfpjaaGreatDoor.N
end
section
namespace Go.Proofs.YtncncijedmfpjaaGreatDoor.N
open Go Go.Am
def gw:Ins→Bool
 |.mk op r a b nn tg ll le=>tK ((nm op).data.toList==(acP #[]).data.toList) (kX op) (decide (op=4)) (eX op||jT op||decide (op=14)) (eX op) (decide (op=65)) (decide (op=14)) (decide (r<0)) (decide (r>1)) (r != 0) (decide ((ll.length:Int)>0)) (decide ((le.length:Int)>0)) (a==0) (b==0) (nn==0) ((tg.length:Int)==0)
theorem zp (x:Ins):au ae env 125 [SQ x] [] (sB (gw x)) []:=by
 obtain⟨op,r,a,b,nn,tg,ll,le⟩:=x
 exact S7 op r a b nn tg ll le (nm op) _ _ _ _ _ _ (H8 op) (H7 op)
end Go.Proofs.YtncncijedmfpjaaGreatDoor.N
end
section
namespace Go.Am
theorem OP {Q:List Ins→Prop} (h : ∀l,(∀x∈l,Q x.l∧Q x.e)→Q l) : ∀l,Q l:=by
 have key : ∀(N:Nat) (l:List Ins),dZ l≤N→Q l:=by
  intro N
  induction N with
  |zero=>
   intro l hl
   cases l with
   |nil=>exact h [] (fun _ hx=>by cases hx)
   |cons x r=>cases x;simp only[dZ,vM] at hl;omega
  |succ N ih=>
   intro l hl
   refine h l fun x hx=> ?_
   have hn:vM x≤dZ l:=by
    clear hl
    induction l with
    |nil=>cases hx
    |cons y r ih2=>
     simp only[dZ]
     cases hx with
     |head=>omega
     |tail _ hx=>have:=ih2 hx;omega
   obtain⟨op,rs,a,b,nn,tg,ll,le⟩:=x
   simp only[vM] at hn
   exact⟨ih ll (by omega),ih le (by omega)⟩
 exact fun l=>key _ l (dd _)
open Classical in
def iB {α:Type} (d:α) (F:List Ins→α) (cs:List PV):α:=if h : ∃l,cs=ak l then F h.choose else d
theorem vV {α:Type} (d:α) (F:List Ins→α) (l:List Ins):iB d F (ak l)=F l:=by
 have h : ∃l',ak l=ak l':=⟨l,rfl⟩
 unfold iB
 rw[dif_pos h,←kU h.choose_spec]
end Go.Am
end
section
namespace Go.Proofs.YtncncijedmfpjaaGreatDoor.N
open Go Go.Am
end Go.Proofs.YtncncijedmfpjaaGreatDoor.N
end
section
namespace Go.Am
open Go.RowKit
section
variable {P:Program} {E:Env} {g:Gh} {m:Mem} {w:World}
theorem Rel.OQ (h:Rel g m w) {i:Nat} {l l':List AV} (hb:m[i]? = some (.ac l)) (hl : ∀vs,cY g w l vs→cY g w l' vs) :
  Rel g (m.set i (.ac l')) w∧dm g m w g (m.set i (.ac l')) w:=by
 have own : ∀(j:Nat) (x:aN),(m.set i (.ac l'))[j]? = some x→x.cP=true → ∃y:aN,m[j]? = some y∧y.cP=true:=fun j x hj ho=>by
  rcases aD hj with⟨rfl,_⟩ | ⟨_,q⟩
  · exact⟨_,hb,rfl⟩
  · exact⟨x,q,ho⟩
 refine⟨⟨fun j hj=>h.sw j (by simpa using hj),fun j hj=> ?_,fun j x cs hj hx=> ?_,fun j c hj hc=> ?_,fun j q x x' c hj hq ho ho' hc eB=> ?_,h.there,fun j k1 l1 hj=> ?_⟩,
  ⟨dd _,fun _ _ _=>rfl,fun _ _ p=>⟨p,rfl⟩,fun _ _ p=> .inl p,fun c ho=> ?_,rfl,rfl,rfl⟩⟩
 · rcases aD hj with⟨_,q⟩ | ⟨_,q⟩
   · cases q
   · exact h.free j q
 · rcases aD hj with⟨rfl,rfl⟩ | ⟨_,q⟩
   · simp only[aN.cells?,Option.some.injEq] at hx
     subst hx
     obtain⟨c',cs',e,q,k1,k2,k3,k4,k5⟩:=h.cells _ _ _ hb rfl
     exact⟨c',cs',e,q,k1,k2,k3,⟨hl _ k4.1,k4.2⟩,k5⟩
   · exact h.cells j x cs q hx
 · rcases aD hj with⟨_,q⟩ | ⟨_,q⟩
   · cases q
   · exact h.tok j c q hc
 · obtain⟨y,y1,y2⟩:=own j x hj ho
   obtain⟨z,z1,z2⟩:=own q x' hq ho'
   exact h.inj j q y z c y1 z1 y2 z2 hc eB
 · rcases aD hj with⟨_,q⟩ | ⟨_,q⟩
   · cases q
   · exact h.obs j k1 l1 q
 · obtain⟨j,x,hj,hx,hc⟩:=ho
   obtain⟨y,y1,y2⟩:=own j x hj hx
   exact .inl ⟨j,y,y1,y2,hc⟩
def Gh.nq (g:Gh) (b aV:Nat):Gh:=match g.bL b with
 |some c=>g.put aV c (g.lo b) (g.hi b)
 |none=>g
theorem Gh.zq {b aV:Nat} (hf:g.bL aV=none):Ext g w (g.nq b aV) w:=by
 unfold Gh.nq
 cases hc:g.bL b with
 |none=>exact Ext.refl g w
 |some c=>
  refine⟨fun j c' hj=> ?_,fun _ _ p=>⟨p,rfl⟩⟩
  have:j≠aV:=fun e=>by subst e;rw[hf] at hj;cases hj
  simp[Gh.put,this,hj]
theorem Rel.OR (h:Rel g m w) {b aV:Nat} (hb:m[b]? = some .tok) (hn:m[aV]? = some .free) :
  Rel (g.nq b aV) ((m.set b .dead).set aV .tok) w∧dm g m w (g.nq b aV) ((m.set b .dead).set aV .tok) w:=by
 have hf:=h.free aV hn
 have ext:=Gh.zq (g:=g) (w:=w) (b:=b) hf
 have hne:b≠aV:=fun e=>by subst e;rw[hb] at hn;cases hn
 cases hc:g.bL b with
 |none=>
  obtain⟨k1,k2⟩:=h.kill b
  have hn':(m.set b .dead)[aV]? = some .free:=by rw[nc hne];exact hn
  obtain⟨t1,t2⟩:=k1.tZ hn'
  have e:g.nq b aV=g:=by unfold Gh.nq;rw[hc]
  rw[e]
  exact⟨t1,k2.trans t2⟩
 |some c=>
  have em:g.nq b aV=g.put aV c (g.lo b) (g.hi b):=by unfold Gh.nq;rw[hc]
  rw[em] at ext ⊢
  have get : ∀j x,((m.set b .dead).set aV .tok)[j]? = some x→(j=aV∧x = .tok)∨x = .dead∨(j≠aV∧j≠b∧m[j]? = some x):=by
   intro j x hj
   rcases aD hj with⟨e,q⟩ | ⟨hjn,q⟩
   · exact .inl ⟨e,q⟩
   · rcases aD q with⟨_,q⟩ | ⟨pZ,q⟩
     · exact .inr (.inl q)
     · exact .inr (.inr ⟨hjn,pZ,q⟩)
  have bo : ∀j,j≠aV→(g.put aV c (g.lo b) (g.hi b)).bL j=g.bL j:=fun j hj=>by simp[Gh.put,hj]
  have bi:(g.put aV c (g.lo b) (g.hi b)).bL aV=some c:=by simp[Gh.put]
  have ne : ∀j x c',j≠b→m[j]? = some x→x.cP=true→g.bL j=some c'→c'≠c:=fun j x c' pZ hj ho eB e=>pZ (h.inj j b x _ c hj hb ho rfl (e▸eB) hc)
  refine⟨⟨fun j hj=> ?_,fun j hj=> ?_,fun j x kk hj hk=> ?_,fun j c' hj eB=> ?_,fun j q x x' c' hj hk ho ho' fQ gH=> ?_,h.there,fun j kk ll hj=> ?_⟩,⟨dd _,fun _ _ _=>rfl,fun _ _ p=>⟨p,rfl⟩,fun _ _ p=> .inl p,fun c' ho=> ?_,rfl,rfl,rfl⟩⟩
  · have hl:=bG hn
    simp only[List.length_set] at hj
    rw[bo j (by omega)];exact h.sw j hj
  · rcases get j _ hj with⟨_,e⟩ | e | ⟨hjn,_,e⟩
    · cases e
    · cases e
    · rw[bo j hjn];exact h.free j e
  · rcases get j _ hj with⟨_,e⟩ | e | ⟨hjn,pZ,e⟩
    · subst e;cases hk
    · subst e;cases hk
    · obtain⟨c1,cs1,e1,n1,q1,q2,q3,q4,q5⟩:=h.cells j x kk e hk
      exact⟨c1,cs1,e1,n1,(bo j hjn).trans q1,q2,q3,q4.mono ext,q5⟩
  · rcases get j _ hj with⟨rfl,e⟩ | e | ⟨hjn,pZ,e⟩
    · rw[bi] at eB
      cases eB
      obtain⟨cs1,e1,n1,q2,q3,q4,q5⟩:=h.tok b c hb hc
      have e1:(g.put j c (g.lo b) (g.hi b)).hi j=g.hi b:=by simp[Gh.put]
      have e2:(g.put j c (g.lo b) (g.hi b)).lo j=g.lo b:=by simp[Gh.put]
      rw[e1,e2]
      exact⟨cs1,_,n1,q2,q3,q4,q5⟩
    · cases e
    · rw[bo j hjn] at eB
      obtain⟨cs1,e1,n1,q2,q3,q4,q5⟩:=h.tok j c' e eB
      have e1:(g.put aV c (g.lo b) (g.hi b)).hi j=g.hi j:=by simp[Gh.put,hjn]
      have e2:(g.put aV c (g.lo b) (g.hi b)).lo j=g.lo j:=by simp[Gh.put,hjn]
      rw[e1,e2]
      exact⟨cs1,_,n1,q2,q3,q4,q5⟩
  · rcases get j _ hj with⟨rfl,e⟩ | e | ⟨hjn,pZ,e⟩
    · rcases get q _ hk with⟨rfl,_⟩ | e' | ⟨R0,WN,e'⟩
      · rfl
      · subst e';simp[aN.cP] at ho'
      · rw[bi] at fQ;cases fQ
        rw[bo q R0] at gH
        exact absurd rfl (ne q x' _ WN e' ho' gH)
    · subst e;simp[aN.cP] at ho
    · rcases get q _ hk with⟨rfl,_⟩ | e' | ⟨R0,WN,e'⟩
      · rw[bi] at gH;cases gH
        rw[bo j hjn] at fQ
        exact absurd rfl (ne j x _ pZ e ho fQ)
      · subst e';simp[aN.cP] at ho'
      · rw[bo j hjn] at fQ;rw[bo q R0] at gH
        exact h.inj j q x x' c' e e' ho ho' fQ gH
  · rcases get j _ hj with⟨rfl,e⟩ | e | ⟨hjn,pZ,e⟩
    · cases e
    · cases e
    · obtain⟨c1,o1,vs1,q1,q2,q3,q4,q5,q6⟩:=h.obs j kk ll e
      exact⟨c1,o1,vs1,(bo j hjn).trans q1,q2,q3.mono ext,q4,q5,by simpa[Gh.put,hjn] using q6⟩
  · obtain⟨j,x,hj,hx,Ek⟩:=ho
    rcases get j _ hj with⟨rfl,e⟩ | e | ⟨hjn,pZ,e⟩
    · rw[bi] at Ek;cases Ek
      exact .inl ⟨b,_,hb,rfl,hc⟩
    · subst e;simp[aN.cP] at hx
    · rw[bo j hjn] at Ek
      exact .inl ⟨j,x,e,hx,Ek⟩
theorem bD.Ld {c:cg} {len sz:Nat} {X:List PV} {r:Mem} {o:Out} (hm:c.st.mem = .tok :: .ac [.os (some 0) len sz X]::r) (hc:rN c=true)
  (h:bD P E {c with st:={c.st with mem:= .dead :: .ac [.os (some (r.length+2)) len sz X]::r++[.tok]}} o):bD P E c o:=by
 refine bD.br (fun g fr w hr cs=> ?_) h
 obtain⟨f,todo,st⟩:=c
 obtain⟨tm,nt,mem,fix,cJ,bZ⟩:=st
 dsimp only at hm
 subst hm
 match todo,hc with
 |.code i x::k,_=>
  obtain⟨b,a,q1,q2,q3,q4,q5,q6⟩:=hr
  have AP:Rel g (.tok :: .ac [.os (some 0) len sz X]::r) w:=q5.rel
  obtain⟨f1,f2⟩:=AP.cO 1
  have hb:((.tok :: .ac [.os (some 0) len sz X]::r:Mem)++cO 1)[0]? = some .tok:=rfl
  have hlen:(.tok :: .ac [.os (some 0) len sz X]::r:Mem).length=r.length+2:=rfl
  have hn:((.tok :: .ac [.os (some 0) len sz X]::r:Mem)++cO 1)[r.length+2]? = some .free:=by
   rw[Hm (by rw[hlen];exact dd _),hlen,QP];rfl
  have hf:=f1.free _ hn
  have ext:=Gh.zq (g:=g) (w:=w) (b:=0) hf
  obtain⟨m1,m2⟩:=f1.OR hb hn
  have Kn:((((.tok :: .ac [.os (some 0) len sz X]::r:Mem)++cO 1).set 0 .dead).set (r.length+2) .tok)[1]? = some (.ac [.os (some 0) len sz X]):=by
   rw[nc (by omega)];rfl
  obtain⟨z1,z2⟩:=m1.OQ Kn (l':=[.os (some (r.length+2)) len sz X]) fun vs hv=>by
   match vs,hv with
   |[v],hv=>
    refine⟨?_,trivial⟩
    have hv1:VA (g.nq 0 (r.length+2)) w (.os (some 0) len sz X) v:=hv.1
    cases hv1 with
    |os _ _ _ _ a' cap h' hr'=>
     refine .os _ _ _ _ a' cap h' ?_
     rcases hr' with hr' | ⟨t,b',o',e1,e2,e3,e4,e5,e6⟩
     · exact .inl hr'
     · cases e1
       unfold Gh.nq at e3 e4 e5 ⊢
       cases hc0:g.bL 0 with
       |none=>
        rw[hc0] at e3
        dsimp only at e3
        rw[hc0] at e3;cases e3
       |some c0=>
        rw[hc0] at e3 e4 e5
        dsimp only at e3 e4 e5 ⊢
        have h0:(0:Nat)≠r.length+2:=by omega
        simp only[Gh.put,h0,if_false] at e3 e4 e5
        rw[hc0] at e3
        cases e3
        exact .inr ⟨_,_,o',rfl,e2,by simp[Gh.put],by simpa[Gh.put] using e4,by simpa[Gh.put] using e5,e6⟩
  have hmem:((((.tok :: .ac [.os (some 0) len sz X]::r:Mem)++cO 1).set 0 .dead).set (r.length+2) .tok).set 1 (.ac [.os (some (r.length+2)) len sz X]) = .dead :: .ac [.os (some (r.length+2)) len sz X]::r++[.tok]:=by
   simp[cO]
  rw[hmem] at z1 z2
  refine⟨_,fr,w,Steps.refl _ _,⟨b,a,q1,q2,q3.ext (fun i c q=>(ext.bL i c q).1),q4.ext (fun i c q=>(ext.bL i c q).1),⟨fun k=>(q5.tm k).mono ext,q5.nt,z1,?_,q5.dS.mono fun c o p=>(ext.pure c o p)⟩,q6⟩,(f2.trans m2).trans z2,fun k c' hk eB=> ?_,rfl,rfl,rfl⟩
  · have:=q5.fix
    simp only[dT,od,acA] at this ⊢
    omega
  · have:=(ext.bL k c' eB)
    exact this
theorem au.pe {f:FuncId} {args:List AV} {sz:Nat} {v:AV} {m':Mem} (hz:1≤sz) (h:au P E f (.os (some 0) 0 sz []::args) [.tok] v m'):au P E f (.os none 0 0 []::args) [] v m':=by
 refine⟨h.1,fun g w cV cs hr hv hg=> ?_⟩
 have hf:g.bL 0=none:=hr.sw 0 (dd _)
 have Sg:Rel g [.tok] w:=by
  have h1:=(hr.cO 1).1
  have h2:=(h1.tZ (i:=0) rfl).1
  exact h2
 have own : ∀c,¬fP g ([.tok]:Mem) c:=fun c ho=>by
  obtain⟨i,b,hi,_,hc⟩:=ho
  match i,hi with
  |0,_=>rw[hf] at hc;cases hc
 match hl:cV.toList,hv with
 |x::xs,hv=>
  have hx:VA g w (.os (some 0) 0 sz []) x:=by
   have h1:VA g w (.os none 0 0 []) x:=hv.1
   cases h1 with
   |os _ _ _ _ a cap h' hr'=>
    have hcap:cap=0:=by
     rcases hr' with h | ⟨t,b,o,e,_⟩
     · exact h
     · cases e
    subst hcap
    exact .os _ _ _ _ a 0 (.oK sz a 0 (.inl hz)) (.inl rfl)
  obtain⟨w',g',cv,fr,s1,s2,s3,s4,s5,s6,s7,s8⟩:=h.2 g w cV cs Sg (by rw[hl];exact⟨hx,hv.2⟩) hg
  refine⟨w',g',cv,fr,s1,s2,s3,s4,s5,⟨s6.size,fun c hc ho=>s6.keep c hc (own c),s6.pure,fun c o hp=> ?_,fun c ho=> ?_,s6.os,s6.tape,s6.output⟩,fun k c hk hc=>absurd hk (Nat.not_lt_zero _),aai _⟩
  · rcases s6.fresh c o hp with q | q | q
    · exact .inl q
    · exact absurd q (own c)
    · exact .inr (.inr q)
  · rcases s6.owned c ho with q | q
    · exact absurd q (own c)
    · exact .inr q
def vW (n sz j:Nat):qK→qK
 |[]=>[]
 |(k,v)::r=>(k,cond (bj k j) (.os (some n) 0 sz []) v)::vW n sz j r
theorem VA.pe {t sz:Nat} {x:Value} (hz:1≤sz) (h:VA g w (.os none 0 0 []) x):VA g w (.os (some t) 0 sz []) x:=by
 cases h with
 |os _ _ _ _ a cap h' hr'=>
  have hcap:cap=0:=by
   rcases hr' with h | ⟨t,b,o,e,_⟩
   · exact h
   · cases e
  subst hcap
  exact .os _ _ _ _ a 0 (.oK sz a 0 (.inl hz)) (.inl rfl)
theorem pg {n sz j:Nat} : ∀{tm:qK},look tm j = .os none 0 0 [] → ∀k,look (vW n sz j tm) k=look tm k∨(look tm k = .os none 0 0 []∧look (vW n sz j tm) k = .os (some n) 0 sz [])
 |[],_,_=> .inl rfl
 |(i,v)::r,h,k=>by
  simp only[look,vW] at h ⊢
  cases hi:bj i j with
  |true=>
   rw[hi] at h
   cases hk:bj i k with
   |true=>exact .inr ⟨h,rfl⟩
   |false=>
    simp only[cond_false]
    clear h
    obtain rfl:=bx hi
    by_cases hr:look r i = .os none 0 0 []
    · exact pg hr k
    · exact .inl (vX hk)
  |false=>
   rw[hi] at h
   cases hk:bj i k with
   |true=>exact .inl rfl
   |false=>exact pg h k
where
 vX {n sz i k:Nat} (hk:bj i k=false) : ∀{r:qK},look (vW n sz i r) k=look r k
  |[]=>rfl
  |(a,v)::r=>by
   simp only[look,vW]
   cases ha:bj a k with
   |true=>
    obtain rfl:=bx ha
    have:bj a i=false:=by
     cases hai:bj a i with
     |false=>rfl
     |true=>obtain rfl:=bx hai;rw[Nat.beq_refl] at hk;cases hk
    rw[this];rfl
   |false=>exact vX hk
theorem bD.pe {c:cg} {o:Out} (j sz:Nat) (hz:1≤sz) (hj:look c.st.tm j = .os none 0 0 []) (hc:rN c=true)
  (h:bD P E {c with st:={c.st with tm:=vW c.st.mem.length sz j c.st.tm,mem:=c.st.mem++[.tok]}} o):bD P E c o:=by
 refine bD.br (fun g fr w hr cs=> ?_) h
 obtain⟨f,todo,st⟩:=c
 obtain⟨tm,nt,mem,fix,cJ,bZ⟩:=st
 dsimp only at hj h ⊢
 match todo,hc with
 |.code i x::k,_=>
  obtain⟨b,a,q1,q2,q3,q4,q5,q6⟩:=hr
  have AP:Rel g mem w:=q5.rel
  obtain⟨f1,f2⟩:=AP.cO 1
  have hn:(mem++cO 1)[mem.length]? = some .free:=by rw[Hm (dd _),QP];rfl
  obtain⟨z1,z2⟩:=f1.tZ hn
  have hmem:(mem++cO 1).set mem.length .tok=mem++[.tok]:=by simp[cO]
  rw[hmem] at z1 z2
  refine⟨g,fr,w,Steps.refl _ _,⟨b,a,q1,q2,q3,q4,⟨fun k=> ?_,q5.nt,z1,?_,q5.dS⟩,q6⟩,f2.trans z2,bO.refl _ _,rfl,rfl,rfl⟩
  · rcases pg (n:=mem.length) (sz:=sz) hj k with e | ⟨e1,e2⟩
    · dsimp only;rw[e];exact q5.tm k
    · dsimp only;rw[e2]
      have:=q5.tm k
      dsimp only at this
      rw[e1] at this
      exact VA.pe hz this
  · have:=q5.fix
    dsimp only at this ⊢
    rw[dT]
    omega
theorem bD.XH {c c':cg} {o:Out} (h:c'=c) (k:bD P E c o):bD P E c' o:=by subst h;exact k
end
end Go.Am
end
section
set_option linter.unusedSimpArgs false
set_option linter.unusedVariables false
namespace Go.Proofs.YtncncijedmfpjaaGreatDoor.N
open Go Go.Am
def puC (n:Int) (k:Nat) (X:List PV) (f:FuncId) (_:List AV) (m:Mem):Option (AV×Mem):=cond (bj f 97) (some (.p (.ps k 1 X),m)) none
def psC (n:Int) (k:Nat) (X:List PV) (f:FuncId) (_:List AV) (m:Mem):Option (AV×Mem):=cond (bj f 150) (some (.p (.ps k 1 X),m)) none
def XI (n:Int) (k:Nat) (X:List PV):bN:=aP (puC n k X) aC [] [] []
def aa7:Sc:= .fin
def Le (n:Int) (k:Nat) (X:List PV):aA:=
 (.call ⟨97,[sI .u32 n,.fn (acU 98) [] []],[],.p (.ps k 1 X),[]⟩
 (.out (.ret (.p (.ps k 1 X)) [])))
theorem OS (n:Int) (k:Nat) (X:List PV):aG ae env (XI n k X) 1000000 45 ([sI acu n]) ([]) aa7=Le n k X:=by kernel_rfl
def XJ:bN:=aP aF aC [(97,0)] [] []
def aa8:Sc:= .fin
def E9 (n:Int):aA:=
 (.at (af ae env 97 0 [sI .u32 n,.fn (acU 98) [] [],fE] ([]) 0 25))
theorem Gr (n:Int):aG ae env XJ 1000000 97 ([sI acu n,AV.fn (acU 98) [] []]) ([]) aa8=E9 n:=by kernel_rfl
def S8:bN:=aP aF aC [(97,0)] [(97,0,1)] [(97,6,3),(97,7,4)]
def XK:Sc:= .fin
def A4 (n:Int) (k:Nat) (X:List PV):aA:=
 (.test (n.fdiv 128==0)
 (.must (((k+1)*1).ble bH&&(k+1).ble bH&&true)
 (.out (.ret (.os (some 0) (k+1) 1 (X++[.sc (.int .u8 (acQ.wrap (acu.wrap (↑(dk 32 n&&&dk 32 127).toNat:Int))))])) [.tok])))
 (.must (((k+1)*1).ble bH&&(k+1).ble bH&&true)
 (.at (af ae env 97 0 [sI .u32 (n.fdiv 128),.fn (acU 98) [] [],.os (some 0) (k+1) 1 (X++[.sc (.int .u8 (acQ.wrap (↑(dk 8 (acQ.wrap (acu.wrap (↑(dk 32 n&&&dk 32 127).toNat:Int)))|||dk 8 128).toNat:Int)))])] ([.tok]) 0 25))))
theorem CP (n:Int) (k:Nat) (X:List PV):grow ae env S8 1000000 true (af ae env 97 0 ([sI acu n,AV.fn (acU 98) [] [],AV.os (Option.some 0) k 1 X]) ([aN.tok]) 0 25) XK atEnd=A4 n k X:=by kernel_rfl
def XL (n:Int) (k:Nat) (X:List PV):bN:=aP (psC n k X) aC [] [] []
def aa9:Sc:= .fin
def Lf (n:Int) (k:Nat) (X:List PV):aA:=
 (.call ⟨150,[sI .i32 n,.fn (acU 151) [] []],[],.p (.ps k 1 X),[]⟩
 (.out (.ret (.p (.ps k 1 X)) [])))
theorem OT (n:Int) (k:Nat) (X:List PV):aG ae env (XL n k X) 1000000 138 ([sI acR n]) ([]) aa9=Lf n k X:=by kernel_rfl
def XM:bN:=aP aF aC [(150,0)] [] []
def aba:Sc:= .fin
def Lg (n:Int):aA:=
 (.at (af ae env 150 0 [sI .i32 n,.fn (acU 151) [] [],fE] ([]) 0 25))
theorem OU (n:Int):aG ae env XM 1000000 150 ([sI acR n,AV.fn (acU 151) [] []]) ([]) aba=Lg n:=by kernel_rfl
def S9:bN:=aP aF aC [(150,0)] [(151,2,3),(151,2,8),(151,2,11),(150,0,1)] [(150,6,3),(150,7,4)]
def XN:Sc:=(.fork (.fork (.lit .fin) (.no (.lit .fin))) (.lit (.fork .fin (.lit .fin))))
def iw (n:Int) (k:Nat) (X:List PV):aA:=
 (.must (((k+1)*1).ble bH&&(k+1).ble bH&&true) (.at (af ae env 150 0 [sI .i32 (n.fdiv 128),.fn (acU 151) [] [],.os (some 0) (k+1) 1 (X++[.sc (.int .u8 (acQ.wrap (↑(dk 8 (acQ.wrap (acR.wrap (↑(dk 32 n&&&dk 32 127).toNat:Int)))|||dk 8 128).toNat:Int)))])] ([.tok]) 0 25)))
def ju (n:Int) (k:Nat) (X:List PV):aA:=
 (.must (((k+1)*1).ble bH&&(k+1).ble bH&&true) (.out (.ret (.os (some 0) (k+1) 1 (X++[.sc (.int .u8 (acQ.wrap (acR.wrap (↑(dk 32 n&&&dk 32 127).toNat:Int))))])) [.tok])))
def qv (n:Int) (k:Nat) (X:List PV):aA:=
 (.test (n.fdiv 128==0)
 (.test (acQ.wrap (↑(dk 8 (acQ.wrap (acR.wrap (↑(dk 32 n&&&dk 32 127).toNat:Int)))&&&dk 8 64).toNat:Int)==0)
 (ju n k X)
 (.must (!(n.fdiv 128 == -1))
 (iw n k X)))
 (.test (n.fdiv 128 == -1)
 (.test (acQ.wrap (↑(dk 8 (acQ.wrap (acR.wrap (↑(dk 32 n&&&dk 32 127).toNat:Int)))&&&dk 8 64).toNat:Int) != 0)
 (ju n k X)
 (iw n k X))
 (iw n k X)))
theorem CQ (n:Int) (k:Nat) (X:List PV):grow ae env S9 1000000 true (af ae env 150 0 ([sI acR n,AV.fn (acU 151) [] [],AV.os (Option.some 0) k 1 X]) ([aN.tok]) 0 25) XN atEnd=qv n k X:=by kernel_rfl
def bt (l:List Nat):List PV:=l.map fun(c:Nat)=> .sc (.int .u8 (c:Int))
theorem bz (l:List Nat):(bt l).length=l.length:=by simp[bt]
theorem bn (a b:List Nat):bt (a++b)=bt a++bt b:=by simp[bt]
theorem Gs (X:List PV) (c:Nat) (l:List Nat):(X++[.sc (.int .u8 (c:Int))])++bt l=X++bt (c::l):=by simp[bt]
def pU:Nat→Nat→List Nat
 |0,n=>[n%128]
 |f+1,n=>if n / 128=0 then[n%128] else(n%128+128)::pU f (n / 128)
def pS:Nat→Int→List Nat
 |0,n=>[(n%128).toNat]
 |f+1,n=>if -64≤n∧n≤63 then[(n%128).toNat] else((n%128).toNat+128)::pS f (n / 128)
theorem kE : ∀(f n:Nat),(pU f n).length≤f+1
 |0,_=>dd _
 |f+1,n=>by
  unfold pU
  split
  · simp
  · simp only[od];have:=kE f (n / 128);omega
theorem Fa : ∀(f:Nat) (n:Int),(pS f n).length≤f+1
 |0,_=>dd _
 |f+1,n=>by
  unfold pS
  split
  · simp
  · simp only[od];have:=Fa f (n / 128);omega
theorem rS (n:Int):(dk 32 n&&&dk 32 127).toNat=(n%128).toNat:=by
 rw[BitVec.toNat_and,acV,acV,show((127:Int)%((2 ^ 32:Nat):Int)).toNat=2 ^ 7-1 from by decide,Nat.and_two_pow_sub_one_eq_mod]
 omega
theorem Lh : ∀m:Nat,m<128→(dk 8 (m:Int)|||dk 8 128).toNat=m+128:=by decide +kernel
theorem RA : ∀m:Nat,m<128→(dk 8 (m:Int)&&&dk 8 64).toNat=(if m<64 then 0 else 64):=by decide +kernel
theorem H9 {n:Int} (h0:0≤n) (h1:n<256):acQ.wrap n=n:=by rw[wU8];omega
theorem Gt {n:Int} (h0 : -2147483648≤n) (h1:n<2147483648):acR.wrap n=n:=by rw[aaP];omega
theorem Gu : ∀(f n:Nat) (X:List PV),n<128 ^ (f+1)→n<4294967296→X.length+f≤1000000000000→f≤100 →
  bD ae env (af ae env 97 0 [sI .u32 n,.fn (.func 98) [] [],.os (some 0) X.length 1 X] [.tok] 0 25) (.ret (.os (some 0) (X++bt (pU f n)).length 1 (X++bt (pU f n))) [.tok]):=by
 have ct:bH=70368744177664:=rfl
 intro f
 induction f with
 |zero=>
  intro n X h1 h2 h3 _
  have h1':n<128:=by simpa using h1
  have d:(n:Int).fdiv 128=0:=by rw[acW _ (by decide)];omega
  have e1:(((n:Int)%128).toNat:Int)=((n%128:Nat):Int):=by omega
  refine ah aI (CP n X.length X) ?_
  simp(disch:=omega) only[A4,aA.ok,d,rS,e1,Gi,H9,ct,acO,dp,and_true,pU,bt,uv,vb,dT,od,acA]
  simp only[beq_self_eq_true,acS,false_implies,true_implies,and_true]
  exact⟨by omega,by omega⟩
 |succ f ih=>
  intro n X h1 h2 h3 hf
  have d:(n:Int).fdiv 128=((n / 128:Nat):Int):=by rw[acW _ (by decide)];omega
  have e1:(((n:Int)%128).toNat:Int)=((n%128:Nat):Int):=by omega
  have e2:=Lh (n%128) (by omega)
  refine ah aI (CP n X.length X) ?_
  simp(disch:=omega) only[A4,aA.ok,d,rS,e1,e2,Gi,H9,ct,acO,dp,and_true]
  refine⟨fun h=>⟨⟨by omega,by omega⟩,?_⟩,fun h=>⟨⟨by omega,by omega⟩,?_⟩⟩
  · have h0:n / 128=0:=by have:=eq_of_beq h;omega
    simp[pU,h0,bt]
  · have h0 : ¬n / 128=0:=by intro e;rw[e] at h;cases h
    have k:=ih (n / 128) (X++[.sc (.int .u8 ((n%128+128:Nat):Int))]) (by rw[Nat.pow_succ] at h1;exact Nat.div_lt_of_lt_mul (by rw[Nat.mul_comm];exact h1)) (by omega) (by simp only[dT,od,acA];omega) (by omega)
    have e3:pU (f+1) n=(n%128+128)::pU f (n / 128):=by rw[pU,if_neg h0]
    rw[Gs] at k
    rw[e3]
    simpa only[dT,od,acA,pD] using k
theorem au.Lj {f:FuncId} {args:List AV} {n:Nat} {X:List PV} (h:au ae env f args [] (.os (some 0) n 1 X) [.tok]):au ae env f args [] (.p (.ps n 1 X)) []:=au.pure h
theorem zu (n:Nat) (h:n<4294967296):au ae env 45 [sI .u32 n] [] (.p (.ps (pU 4 n).length 1 (bt (pU 4 n)))) []:=by
 refine aa aI (OS n (pU 4 n).length (bt (pU 4 n))) ?_
 simp only[Le,aA.ok,and_true]
 refine au.Lj (aa aI (Gr n) ?_)
 simp only[E9,bu,aA.ok]
 have k:=Gu 4 n [] (by omega) h (by simp) (by omega)
 rw[Ps,bz] at k
 exact bD.pe 5 1 (dd 1) (by kernel_rfl) (by kernel_rfl) (bD.XH (by kernel_rfl) k)
theorem OV : ∀(f:Nat) (n:Int) (X:List PV),-(64*128 ^ f)≤n→n<64*128 ^ f → -2147483648≤n→n<2147483648→X.length+f≤1000000000000→f≤100 →
  bD ae env (af ae env 150 0 [sI .i32 n,.fn (.func 151) [] [],.os (some 0) X.length 1 X] [.tok] 0 25) (.ret (.os (some 0) (X++bt (pS f n)).length 1 (X++bt (pS f n))) [.tok]):=by
 have ct:bH=70368744177664:=rfl
 intro f
 induction f with
 |zero=>
  intro n X h1 h2 h4 h5 h3 _
  have d:n.fdiv 128=n / 128:=acW _ (by decide)
  obtain⟨m,hm⟩ : ∃m:Nat,(n%128).toNat=m:=⟨_,rfl⟩
  have hm1:n=128*(n / 128)+m∧m<128:=by omega
  have e1:=RA m hm1.2
  have e2:=Lh m hm1.2
  refine ah aI (CQ n X.length X) ?_
  by_cases h6:m<64
  · have h7:n / 128=0:=by omega
    rw[if_pos h6] at e1
    simp(disch:=omega) only[qv,iw,ju,aA.ok,d,rS,hm,Gt,H9,e1,e2,ct,acO,dp,and_true,h7,show((0:Int)==0)=true from rfl,acS,false_implies,true_implies,show(((0:Nat):Int)==0)=true from rfl,pS,bt,uv,vb,dT,od,acA]
    exact⟨by omega,by omega⟩
  · have h7:n / 128 = -1:=by omega
    rw[if_neg h6] at e1
    simp(disch:=omega) only[qv,iw,ju,aA.ok,d,rS,hm,Gt,H9,e1,e2,ct,acO,dp,and_true,h7,show((-1:Int)==0)=false from rfl,show((-1:Int) == -1)=true from rfl,acS,pn,false_implies,true_implies,true_and,show(((64:Nat):Int) != 0)=true from rfl,pS,bt,uv,vb,dT,od,acA]
    exact⟨by omega,by omega⟩
 |succ f ih=>
  intro n X h1 h2 h4 h5 h3 hf
  have d:n.fdiv 128=n / 128:=acW _ (by decide)
  obtain⟨m,hm⟩ : ∃m:Nat,(n%128).toNat=m:=⟨_,rfl⟩
  have hm1:n=128*(n / 128)+m∧m<128:=by omega
  have e1:=RA m hm1.2
  have e2:=Lh m hm1.2
  have hb:(X.length+1)*1≤70368744177664∧X.length+1≤70368744177664:=⟨by omega,by omega⟩
  have more : ¬(-64≤n∧n≤63)→bD ae env (af ae env 150 0 [sI .i32 (n / 128),.fn (.func 151) [] [],.os (some 0) (X.length+1) 1 (X++[.sc (.int .u8 ((m+128:Nat):Int))])] [.tok] 0 25) (.ret (.os (some 0) (X++bt (pS (f+1) n)).length 1 (X++bt (pS (f+1) n))) [.tok]):=fun h0=>by
   have hp:(128:Int) ^ (f+1)=128*128 ^ f:=by rw[Int.pow_succ,Int.mul_comm]
   have k:=ih (n / 128) (X++[.sc (.int .u8 ((m+128:Nat):Int))]) (by rw[hp] at h1;omega) (by rw[hp] at h2;omega) (by omega) (by omega) (by simp only[dT,od,acA];omega) (by omega)
   have e3:pS (f+1) n=(m+128)::pS f (n / 128):=by rw[pS,if_neg h0,hm]
   rw[Gs] at k
   rw[e3]
   simpa only[dT,od,acA,pD] using k
  have last:(-64≤n∧n≤63)→Out.ret (.os (some 0) (X.length+1) 1 (X++[.sc (.int .u8 (m:Int))])) [.tok] = .ret (.os (some 0) (X++bt (pS (f+1) n)).length 1 (X++bt (pS (f+1) n))) [.tok]:=fun h0=>by
   rw[pS,if_pos h0,hm];simp[bt]
  refine ah aI (CQ n X.length X) ?_
  by_cases h6:m<64
  · rw[if_pos h6] at e1
    simp(disch:=omega) only[qv,iw,ju,aA.ok,d,rS,hm,Gt,H9,e1,e2,ct,acO,dp,and_true,acS,pn,false_implies,true_implies,true_and,show(((0:Nat):Int)==0)=true from rfl,show(((0:Nat):Int) != 0)=false from rfl]
    refine⟨fun h=>⟨hb,last ?_⟩,fun h=>⟨fun _=>⟨hb,more ?_⟩,fun _=>⟨hb,more ?_⟩⟩⟩
    · have:n / 128=0:=eq_of_beq h
      omega
    · have : ¬n / 128=0:=fun e=>by rw[e] at h;cases h
      omega
    · have : ¬n / 128=0:=fun e=>by rw[e] at h;cases h
      omega
  · rw[if_neg h6] at e1
    simp(disch:=omega) only[qv,iw,ju,aA.ok,d,rS,hm,Gt,H9,e1,e2,ct,acO,dp,and_true,acS,pn,false_implies,true_implies,true_and,show(((64:Nat):Int)==0)=false from rfl,show(((64:Nat):Int) != 0)=true from rfl]
    refine⟨fun h=>⟨?_,hb,more ?_⟩,fun _=>⟨fun h=>⟨hb,last ?_⟩,fun h=>⟨hb,more ?_⟩⟩⟩
    · have:n / 128=0:=eq_of_beq h
      rw[this];rfl
    · have:n / 128=0:=eq_of_beq h
      omega
    · have:n / 128 = -1:=eq_of_beq h
      omega
    · have : ¬n / 128 = -1:=fun e=>by rw[e] at h;cases h
      omega
theorem Ia (n:Int) (h0 : -2147483648≤n) (h:n<2147483648):au ae env 138 [sI .i32 n] [] (.p (.ps (pS 4 n).length 1 (bt (pS 4 n)))) []:=by
 refine aa aI (OT n (pS 4 n).length (bt (pS 4 n))) ?_
 simp only[Lf,aA.ok,and_true]
 refine au.Lj (aa aI (OU n) ?_)
 simp only[Lg,bu,aA.ok]
 have k:=OV 4 n [] (by omega) (by omega) h0 h (by simp) (by omega)
 rw[Ps,bz] at k
 exact bD.pe 5 1 (dd 1) (by kernel_rfl) (by kernel_rfl) (bD.XH (by kernel_rfl) k)
end Go.Proofs.YtncncijedmfpjaaGreatDoor.N
end
section
namespace Go.Proofs.YtncncijedmfpjaaGreatDoor.N
open Go Go.Am
mutual
def lW:Ins→List Nat
 |.mk op r a b nn tg ll le=>(op%256).toNat::(if kX op=true then(if r=1 then 127 else 64)::(kJ ll++((if le.length=0 then[] else 5::kJ le)++[11]))
    else if op=17 then pU 4 a.toNat++[0]
    else if jT op=true then pU 4 a.toNat
    else if op=14 then pU 4 tg.length++(tg.flatMap (fun t=>pU 4 t.toNat)++pU 4 a.toNat)
    else if op=63∨op=64 then[0]
    else if op=65 then pS 4 nn
    else if eX op=true then pU 4 a.toNat++pU 4 b.toNat
    else[])
def kJ:List Ins→List Nat
 |[]=>[]
 |x::r=>lW x++kJ r
end
theorem CR : ∀tg:List Int,(tg.flatMap (fun t=>pU 4 t.toNat)).length≤5*tg.length
 |[]=>dd _
 |t::r=>by
  have:=kE 4 t.toNat
  have:=CR r
  simp only[List.flatMap_cons,dT,od]
  omega
mutual
theorem Gv : ∀x:Ins,(lW x).length≤20*kD x
 |.mk op r a b nn tg ll le=>by
  have h1:=lX ll
  have h2:=lX le
  have h3:=kE 4 a.toNat
  have h4:=kE 4 b.toNat
  have h5:=Fa 4 nn
  have h6:=kE 4 tg.length
  have h7:=CR tg
  simp only[lW,kD,od]
  repeat' split
  all_goals (try simp only[dT,od,acA])
  all_goals omega
theorem lX : ∀l:List Ins,(kJ l).length≤20*cZ l
 |[]=>aai _
 |x::r=>by
  have h1:=Gv x
  have h2:=lX r
  simp only[kJ,cZ,dT]
  omega
end
theorem kF {a:Int} (h:(Lit.int .u32 a).wf=true):0≤a∧a<4294967296:=by
 have h:acu.min≤a∧a≤acu.max:=by simpa[Lit.wf] using h
 exact⟨h.1,acX h.2 (by decide)⟩
theorem Fb {a:Int} (h:(Lit.int .i32 a).wf=true) : -2147483648≤a∧a<2147483648:=by
 have h:acR.min≤a∧a≤acR.max:=by simpa[Lit.wf] using h
 exact⟨h.1,acX h.2 (by decide)⟩
theorem eH (n:Int):acQ.wrap n=((n%256).toNat:Int):=by rw[wU8];omega
def jU (n:Int):Nat:=(pU 4 n.toNat).length
def qU (n:Int):List PV:=bt (pU 4 n.toNat)
def jS (n:Int):Nat:=(pS 4 n).length
def qS (n:Int):List PV:=bt (pS 4 n)
def qL (cs:List PV):List PV:=iB [] (fun l=>bt (kJ l)) cs
def jL (cs:List PV):Nat:=iB 0 (fun l=>(kJ l).length) cs
theorem sZ (l:List Ins):qL (ak l)=bt (kJ l):=vV _ _ l
theorem oD (l:List Ins):jL (ak l)=(kJ l).length:=vV _ _ l
theorem gE {a:Int} (h:0≤a∧a<4294967296):au ae env 45 [sI .u32 a] [] (.p (.ps (jU a) 1 (qU a))) []:=by
 have:=zu a.toNat (by omega)
 rwa [show((a.toNat:Nat):Int)=a by omega] at this
theorem Ib {a:Int} (h : -2147483648≤a∧a<2147483648):au ae env 138 [sI .i32 a] [] (.p (.ps (jS a) 1 (qS a))) []:=Ia a h.1 h.2
theorem CS (n:Int):jU n≤5:=kE 4 _
theorem XO (n:Int):jS n≤5:=Fa 4 _
end Go.Proofs.YtncncijedmfpjaaGreatDoor.N
end
section
set_option linter.unusedSimpArgs false
set_option linter.unusedVariables false
namespace Go.Proofs.YtncncijedmfpjaaGreatDoor.N
open Go Go.Am
theorem Gw {tg:List Int} {j:Nat} (h:j<tg.length):(bU .u32 tg).getD (j*1) .bk = .sc (.int .u32 (tg[j]'h)):=by
 simp[bU,di,h]
theorem abb {t:Option Nat} {n m:Nat} {X Y:List PV} {mm:Mem} (h:X=Y) (h':n=Y.length) (e:m=Y.length):Out.ret (.os t n 1 X) mm = .ret (.os t m 1 Y) mm:=by subst h;rw[h',e]
theorem Ll {l:List Ins} {i:Nat} (h:i<l.length):kJ (l.drop i)=lW l[i]++kJ (l.drop (i+1)):=by
 rw[List.drop_eq_getElem_cons h,kJ]
theorem nU : ∀{l:List Ins} {x:Ins},sV l→x∈l→JE x
 |y::l,x,h,hx=>by
  simp only[sV] at h
  cases hx with
  |head=>exact h.1
  |tail _ hx=>exact nU h.2 hx
end Go.Proofs.YtncncijedmfpjaaGreatDoor.N
end
