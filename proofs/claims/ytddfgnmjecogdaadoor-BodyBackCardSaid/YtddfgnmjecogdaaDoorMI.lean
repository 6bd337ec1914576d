import Derived.Test.YtddfgnmjecogdaaDoorMH
import Derived.Test.YtddfgnmjecogdaaDoorMG
open Nat renaming le_refl→df,beq→be,eq_of_beq_eq_true→bm,ble_eq→V6,sub_self→Vo,zero_add→sa,zero_le→Vr
open ByteArray renaming mk→V7
open Go.Proofs.Tryd renaming prog→ae
open Go.IntKind renaming u8→V8,i32→V9,u32→VO,i64→vj
open List renaming length_append→ei,length_cons→pa,length_nil→VS,getD_eq_getElem?_getD→dt,getElem?_append_right→Va,getElem?_eq_getElem→dp,getElem?_set_ne→ph,map_cons→pA,map_nil→H3,nil_append→Vl
open Bool renaming and_eq_true→dv,true_eq_false→Wa,eq_iff_iff→Wb,false_eq_true→rh,or_eq_true→kx
open Go.Fn renaming func→V2
open BitVec renaming ofInt→du,toNat_ofInt→Wc
open Int renaming fdiv_eq_ediv_of_nonneg→Wd,lt_of_le_of_lt→We
noncomputable section
section
namespace Go.Proofs.YtddfgnmjecogdaaDoor.N
open Go Go.Am
def Ry (f:FuncId) (_:List AV) (_:Mem):Option (AV×Mem):=cond (be f 63) (some (.agg (Jk.map fun s=> .p (.sc (.string s))),[])) none
def Rz (op:Int):FuncId→Nat→Nat→Option (AV→AV):=eF [(44,4,2,.p (.sc (.string (Jk.getD op.toNat ⟨#[]⟩))))]
def RA (_op:Int) (n:Int) (st:Bool) (f:FuncId) (_:List AV) (_:Mem):Option (AV×Mem):=cond (be f 53) (some (.bk [sI .u32 n,sB st],[])) none
def RB (_op _r _a _b _nn:Int) (_tg:List Int) (_ll _le:List Ins) (s:ByteArray) (u1 u2 u3 u4 u5 u6:Bool) (f:FuncId) (_:List AV) (_:Mem):Option (AV×Mem):=cond (be f 44) (some (.p (.sc (.string s)),[])) (cond (be f 73) (some (.agg [sB u1,sB u2,sB u3,sB u4,sB u5,sB u6],[])) none)
def MN (op:Int):gQ:=pY Ry cC [] [(44,2,3),(44,0,0)] [(44,4,2)] (Rz op)
def O6:Sc:=(.fork (.lit .fin) .fin)
def Er (op:Int):aN:=
 (.test (decide (op<0))
 (.out (.ret (.p (.sc (.string (V7 #[])))) []))
 (.test (decide (op≥256))
 (.out (.ret (.p (.sc (.string (V7 #[])))) []))
 (.call ⟨63,[],[],.agg (Jk.map fun s=> .p (.sc (.string s))),[]⟩
 (.must (eW op 256&&(op.toNat*1).blt 256&&true)
 (.need ((Jk.map fun s=>AV.p (PV.sc (.string s))).getD (op.toNat*1) AV.af=AV.p (PV.sc (Value.string (Jk.getD op.toNat (V7 #[])))))
 (.out (.ret (.p (.sc (.string (Jk.getD op.toNat (V7 #[]))))) [])))))))
theorem HK (op:Int):dF ae env (MN op) 1000000 44 ([sI vj op]) ([]) O6=Er op:=by kernel_rfl
def MO:gQ:=fy dY cC [] [(53,0,0),(53,0,1),(53,0,2),(53,0,4),(53,0,3),(53,0,5),(53,0,7),(53,0,6)] []
def O7:Sc:=(.fork (.yes .fin) (.fork .fin (.fork (.yes .fin) (.fork (.yes .fin) (.fork .fin (.fork (.yes .fin) (.fork (.yes .fin) .fin)))))))
def Es (op:Int):aN:=
 (.test (op==40)
 (.must (op==40)
 (.out (.ret (.bk [sI .u32 2,sB true]) [])))
 (.test (op==54)
 (.out (.ret (.bk [sI .u32 2,sB true]) []))
 (.test (op==46)
 (.must (op==46)
 (.out (.ret (.bk [sI .u32 1,sB true]) [])))
 (.test (op==47)
 (.must (op==47)
 (.out (.ret (.bk [sI .u32 1,sB true]) [])))
 (.test (op==59)
 (.out (.ret (.bk [sI .u32 1,sB true]) []))
 (.test (op==44)
 (.must (op==44)
 (.out (.ret (.bk [sI .u32 0,sB true]) [])))
 (.test (op==45)
 (.must (op==45)
 (.out (.ret (.bk [sI .u32 0,sB true]) [])))
 (.test (op==58)
 (.out (.ret (.bk [sI .u32 0,sB true]) []))
 (.out (.ret (.bk [sI .u32 0,sB false]) []))))))))))
theorem HL (op:Int):dF ae env MO 1000000 53 ([sI vj op]) ([]) O7=Es op:=by kernel_rfl
def MP (op n:Int) (st:Bool):gQ:=fy (RA op n st) cC [] [(73,0,0),(73,0,1),(73,0,2),(73,0,3),(73,0,4),(73,0,12),(73,0,5),(73,0,6),(73,0,7),(73,0,8),(73,0,9),(73,0,10),(73,0,11),(73,0,13),(73,0,14)] []
def O8:Sc:=(.fork .fin (.fork (.yes .fin) (.fork .fin (.fork .fin (.fork (.yes .fin) (.fork (.yes .fin) (.fork (.yes .fin) (.fork (.yes .fin) (.fork (.yes .fin) (.fork (.yes .fin) (.fork (.yes .fin) (.fork (.yes .fin) .fin))))))))))))
def eP:aN:=
 (.out (.ret (.agg [sB false,sB false,sB true,sB false,sB false,sB false]) []))
def Et (op n:Int) (st:Bool):aN:=
 (.call ⟨53,[sI .i64 op],[],.bk [sI .u32 n,.p (.sc (.bool st))],[]⟩
 (.test (st)
 (.out (.ret (.agg [sB false,sB false,sB true,sB true,sB false,sB false]) []))
 (.test (op==2)
 (.must (op==2)
 (.out (.ret (.agg [sB true,sB false,sB false,sB false,sB false,sB false]) [])))
 (.test (op==3)
 (.out (.ret (.agg [sB true,sB false,sB false,sB false,sB false,sB false]) []))
 (.test (op==4)
 (.out (.ret (.agg [sB true,sB true,sB false,sB false,sB false,sB false]) []))
 (.test (op==12)
 (.must (op==12)
 (eP))
 (.test (op==13)
 (.must (op==13)
 (eP))
 (.test (op==16)
 (.must (op==16)
 (eP))
 (.test (op==17)
 (.must (op==17)
 (eP))
 (.test (op==32)
 (.must (op==32)
 (eP))
 (.test (op==33)
 (.must (op==33)
 (eP))
 (.test (op==34)
 (.must (op==34)
 (eP))
 (.test (op==35)
 (.must (op==35)
 (eP))
 (.test (op==36)
 (eP)
 (.test (op==14)
 (.out (.ret (.agg [sB false,sB false,sB true,sB false,sB false,sB true]) []))
 (.test (op==65)
 (.out (.ret (.agg [sB false,sB false,sB false,sB false,sB true,sB false]) []))
 (.out (.ret (.agg [sB false,sB false,sB false,sB false,sB false,sB false]) []))))))))))))))))))
theorem HM (op n:Int) (st:Bool):dF ae env (MP op n st) 1000000 73 ([sI vj op]) ([]) O8=Et op n st:=by kernel_rfl
def MQ (op r a b nn:Int) (tg:List Int) (ll:List Ins) (le:List Ins) (s:ByteArray) (u1:Bool) (u2:Bool) (u3:Bool) (u4:Bool) (u5:Bool) (u6:Bool):gQ:=fy (RB op r a b nn tg ll le s u1 u2 u3 u4 u5 u6) cC [] [(50,0,0),(50,0,3),(50,4,4),(50,0,1),(50,5,4),(50,5,8),(50,0,2),(50,6,4),(50,8,3),(50,8,11),(50,8,20),(50,8,29),(50,8,26),(50,8,17),(50,8,8)] []
def O9:Sc:=(.fork (.yes .fin) (.fork (.lit (.lit .fin)) (.fork (.yes .fin) (.fork (.fork (.lit (.lit .fin)) (.fork (.yes .fin) (.fork (.fork .fin (.fork (.lit (.fork (.lit (.fork (.lit .fin) .fin)) (.fork (.fork (.lit .fin) .fin) (.lit .fin)))) (.fork (.fork (.lit (.fork (.lit .fin) .fin)) (.fork (.fork (.lit .fin) .fin) (.lit .fin))) (.lit (.lit .fin))))) (.lit (.fork (.lit (.fork (.lit (.fork (.lit .fin) .fin)) (.fork (.fork (.lit .fin) .fin) (.lit .fin)))) (.fork (.fork (.lit (.fork (.lit .fin) .fin)) (.fork (.fork (.lit .fin) .fin) (.lit .fin))) (.lit (.lit .fin)))))))) (.lit (.fork (.fork .fin (.fork (.lit (.fork (.lit (.fork (.lit .fin) .fin)) (.fork (.fork (.lit .fin) .fin) (.lit .fin)))) (.fork (.fork (.lit (.fork (.lit .fin) .fin)) (.fork (.fork (.lit .fin) .fin) (.lit .fin))) (.lit (.lit .fin))))) (.lit (.fork (.lit (.fork (.lit (.fork (.lit .fin) .fin)) (.fork (.fork (.lit .fin) .fin) (.lit .fin)))) (.fork (.fork (.lit (.fork (.lit .fin) .fin)) (.fork (.fork (.lit .fin) .fin) (.lit .fin))) (.lit (.lit .fin)))))))))))
def sS (b nn:Int) (tg:List Int) (u4:Bool) (u5:Bool) (u6:Bool):aN:=
 (.test (u4) (.test (u5) (.test (u6) Hy (.out (.ret (.p (.sc (.bool ((↑tg.length:Int)==0)))) []))) (.test (nn==0) (.test (u6) Hy (.out (.ret (.p (.sc (.bool ((↑tg.length:Int)==0)))) []))) (.out (.ret (sB false) [])))) (.test (b==0) (.test (u5) (.test (u6) Hy (.out (.ret (.p (.sc (.bool ((↑tg.length:Int)==0)))) []))) (.test (nn==0) (.test (u6) Hy (.out (.ret (.p (.sc (.bool ((↑tg.length:Int)==0)))) []))) (.out (.ret (sB false) [])))) (.out (.ret (sB false) []))))
def fJ:aN:=
 (.out (.ret (sB false) []))
def lM (a b nn:Int) (tg:List Int) (u3:Bool) (u4:Bool) (u5:Bool) (u6:Bool):aN:=
 (.test (u3) (sS b nn tg u4 u5 u6) (.test (a==0) (sS b nn tg u4 u5 u6) (fJ)))
def Eu (op r a b nn:Int) (tg:List Int) (ll:List Ins) (le:List Ins) (s:ByteArray) (u1:Bool) (u2:Bool) (u3:Bool) (u4:Bool) (u5:Bool) (u6:Bool):aN:=
 (.call ⟨73,[sI .i64 op],[],.agg [.p (.sc (.bool u1)),.p (.sc (.bool u2)),.p (.sc (.bool u3)),.p (.sc (.bool u4)),.p (.sc (.bool u5)),.p (.sc (.bool u6))],[]⟩
 (.call ⟨44,[sI .i64 op],[],.p (.sc (.string s)),[]⟩
 (.test (s.data.toList==(V7 #[]).data.toList)
 (.must (s.data.toList==(V7 #[]).data.toList)
 (fJ))
 (.test (decide (r<0))
 (fJ)
 (.test (decide (r>1))
 (.must (decide (r>1))
 (fJ))
 (.test (!u1)
 (.test (r != 0)
 (fJ)
 (.test (decide ((↑ll.length:Int)>0))
 (.must (decide ((↑ll.length:Int)>0))
 (fJ))
 (.test (!u2)
 (.test (decide ((↑le.length:Int)>0))
 (fJ)
 (lM a b nn tg u3 u4 u5 u6))
 (lM a b nn tg u3 u4 u5 u6))))
 (.test (!u2)
 (.test (decide ((↑le.length:Int)>0))
 (fJ)
 (lM a b nn tg u3 u4 u5 u6))
 (lM a b nn tg u3 u4 u5 u6))))))))
theorem HN (op r a b nn:Int) (tg:List Int) (ll:List Ins) (le:List Ins) (s:ByteArray) (u1:Bool) (u2:Bool) (u3:Bool) (u4:Bool) (u5:Bool) (u6:Bool):dF ae env (MQ op r a b nn tg ll le s u1 u2 u3 u4 u5 u6) 1000000 50 ([Ch op r a b nn tg ll le]) ([]) O9=Eu op r a b nn tg ll le s u1 u2 u3 u4 u5 u6:=by kernel_rfl
def nm (op:Int):ByteArray:=if op<0∨256≤op then⟨#[]⟩ else Jk.getD op.toNat ⟨#[]⟩
theorem eR (op:Int):aG ae env 44 [sI .i64 op] [] (.p (.sc (.string (nm op)))) []:=by
 refine ak cV (HK op) ?_
 simp only[Er,aN.ok,decide_eq_true_eq,decide_eq_false_iff_not]
 have hlen:(Jk.map fun s=>(AV.p (PV.sc (.string s)))).length=256:=by kernel_rfl
 refine⟨fun h=> ?_,fun h=>⟨fun h2=> ?_,fun h2=>⟨MM,?_,?_,?_⟩⟩⟩
 · rw[nm,if_pos (.inl h)]
 · rw[nm,if_pos (.inr h2)]
 · simp[eW];omega
 · have hl:op.toNat<(Jk.map fun s=>(AV.p (PV.sc (.string s)))).length:=by rw[hlen];omega
   rw[Nat.mul_one,dt,dp hl,Option.getD_some,List.getElem_map,dt,dp (by simpa using hl),Option.getD_some]
 · rw[nm,if_neg (by omega)]
def dG (op:Int):Bool:=decide (op=40∨op=44∨op=45∨op=46∨op=47∨op=54∨op=58∨op=59)
def xd (op:Int):Int:=if op=40∨op=54 then 2 else if op=46∨op=47∨op=59 then 1 else 0
def dx (op:Int):Bool:=decide (op=2∨op=3∨op=4)
def gh (op:Int):Bool:=decide (op=12∨op=13∨op=16∨op=17∨(32≤op∧op≤36))
theorem qb (op:Int):aG ae env 53 [sI .i64 op] [] (.bk [sI .u32 (xd op),sB (dG op)]) []:=by
 refine ak cV (HL op) ?_
 simp only[Es,aN.ok,beq_iff_eq,beq_eq_false_iff_ne]
 repeat' first | apply And.intro | (intro h)
 all_goals first | assumption | (simp only[xd,dG];simp_all;done)
def Pa (op:Int):AV:= .agg [sB (dx op),sB (decide (op=4)),sB (dG op||gh op||decide (op=14)),sB (dG op),sB (decide (op=65)),sB (decide (op=14))]
theorem MR {op:Int} {x1 x2 x3 x4 x5 x6:Bool} (h1:x1=true↔dx op=true) (h2:x2=true↔op=4) (h3:x3=true↔dG op=true∨gh op=true∨op=14) (h4:x4=true↔dG op=true) (h5:x5=true↔op=65) (h6:x6=true↔op=14) :
  Out.ret (.agg [.p (.sc (.bool x1)),.p (.sc (.bool x2)),.p (.sc (.bool x3)),.p (.sc (.bool x4)),.p (.sc (.bool x5)),.p (.sc (.bool x6))]) []=Out.ret (Pa op) []:=by
 obtain rfl:x1=dx op:=Wb.2 h1
 obtain rfl:x2=decide (op=4):=Wb.2 (by rw[h2,decide_eq_true_eq])
 obtain rfl:x3=(dG op||gh op||decide (op=14)):=Wb.2 (by rw[h3,kx,kx,decide_eq_true_eq,or_assoc])
 obtain rfl:x4=dG op:=Wb.2 h4
 obtain rfl:x5=decide (op=65):=Wb.2 (by rw[h5,decide_eq_true_eq])
 obtain rfl:x6=decide (op=14):=Wb.2 (by rw[h6,decide_eq_true_eq])
 rfl
theorem nW {op:Int}:dG op=true↔(op=40∨op=44∨op=45∨op=46∨op=47∨op=54∨op=58∨op=59):=decide_eq_true_iff
theorem dV {op:Int}:dx op=true↔(op=2∨op=3∨op=4):=decide_eq_true_iff
theorem lO {op:Int}:gh op=true↔(op=12∨op=13∨op=16∨op=17∨(32≤op∧op≤36)):=decide_eq_true_iff
set_option maxHeartbeats 2000000 in
theorem FH (op:Int):aG ae env 73 [sI .i64 op] [] (Pa op) []:=by
 refine ak cV (HM op (xd op) (dG op)) ?_
 simp only[Et,eP,aN.ok,beq_iff_eq,beq_eq_false_iff_ne]
 refine⟨qb op,?_⟩
 rw[←Bool.not_eq_true,nW]
 repeat' first | apply And.intro | (intro h)
 all_goals first | assumption | (refine MR ?_ ?_ ?_ ?_ ?_ ?_<;>simp only[nW,dV,lO,true_iff,rh,false_iff]<;>omega)
def rz (e0 u1 u2 u3 u4 u5 u6 e1 e2 e3 e4 e5 e6 e7 e8 e9:Bool):Bool:= !e0&&(!e1&&(!e2&&((u1 || !(e3||e4))&&((u2 || !e5)&&((u3||e6)&&((u4||e7)&&((u5||e8)&&(u6||e9))))))))
set_option maxHeartbeats 4000000 in
theorem MS (op r a b nn:Int) (tg:List Int) (ll le:List Ins) (s:ByteArray) (u1 u2 u3 u4 u5 u6:Bool) (h1:aG ae env 73 [sI .i64 op] [] (.agg [sB u1,sB u2,sB u3,sB u4,sB u5,sB u6]) []) (h2:aG ae env 44 [sI .i64 op] [] (.p (.sc (.string s))) []) :
  aG ae env 50 [Ch op r a b nn tg ll le] [] (sB (rz (s.data.toList==(V7 #[]).data.toList) u1 u2 u3 u4 u5 u6 (decide (r<0)) (decide (r>1)) (r != 0) (decide ((ll.length:Int)>0)) (decide ((le.length:Int)>0)) (a==0) (b==0) (nn==0) ((tg.length:Int)==0))) []:=by
 refine ak cV (HN op r a b nn tg ll le s u1 u2 u3 u4 u5 u6) ?_
 simp only[Eu,sS,fJ,lM,ct,aN.ok]
 refine⟨h1,h2,?_⟩
 generalize (s.data.toList==(V7 #[]).data.toList)=e0
 generalize decide (r<0)=e1
 generalize decide (r>1)=e2
 generalize (r != 0)=e3
 generalize decide ((ll.length:Int)>0)=e4
 generalize decide ((le.length:Int)>0)=e5
 generalize (a==0)=e6
 generalize (b==0)=e7
 generalize (nn==0)=e8
 generalize ((tg.length:Int)==0)=e9
 cases e0
 case true=>simp[rz]
 cases e1
 case true=>simp[rz]
 cases e2
 case true=>simp[rz]
 cases u1<;>cases e3<;>cases e4<;>(try (simp[rz];done))<;>cases u2<;>cases e5<;>(try (simp[rz];done))<;>cases u3<;>cases e6<;>(try (simp[rz];done))<;>cases u4<;>cases e7<;>(try (simp[rz];done))<;>cases u5<;>cases e8<;>(try (simp[rz];done))<;>cases u6<;>simp[rz]
def fK:Ins→Bool
 |.mk op r a b nn tg ll le=>rz ((nm op).data.toList==(V7 #[]).data.toList) (dx op) (decide (op=4)) (dG op||gh op||decide (op=14)) (dG op) (decide (op=65)) (decide (op=14)) (decide (r<0)) (decide (r>1)) (r != 0) (decide ((ll.length:Int)>0)) (decide ((le.length:Int)>0)) (a==0) (b==0) (nn==0) ((tg.length:Int)==0)
theorem FI (x:Ins):aG ae env 50 [MC x] [] (sB (fK x)) []:=by
 obtain⟨op,r,a,b,nn,tg,ll,le⟩:=x
 exact MS op r a b nn tg ll le (nm op) _ _ _ _ _ _ (FH op) (eR op)
end Go.Proofs.YtddfgnmjecogdaaDoor.N
end
section
namespace Go.Am
theorem J4 {Q:List Ins→Prop} (h : ∀l,(∀x∈l,Q x.l∧Q x.e)→Q l) : ∀l,Q l:=by
 have key : ∀(N:Nat) (l:List Ins),bU l≤N→Q l:=by
  intro N
  induction N with
  |zero=>
   intro l hl
   cases l with
   |nil=>exact h [] (fun _ hx=>by cases hx)
   |cons x r=>cases x;simp only[bU,oO] at hl;omega
  |succ N ih=>
   intro l hl
   refine h l fun x hx=> ?_
   have hn:oO x≤bU l:=by
    clear hl
    induction l with
    |nil=>cases hx
    |cons y r ih2=>
     simp only[bU]
     cases hx with
     |head=>omega
     |tail _ hx=>have:=ih2 hx;omega
   obtain⟨op,rs,a,b,nn,tg,ll,le⟩:=x
   simp only[oO] at hn
   exact⟨ih ll (by omega),ih le (by omega)⟩
 exact fun l=>key _ l (df _)
open Classical in
def fD {α:Type} (d:α) (F:List Ins→α) (cs:List PV):α:=if h : ∃l,cs=aa l then F h.choose else d
theorem jZ {α:Type} (d:α) (F:List Ins→α) (l:List Ins):fD d F (aa l)=F l:=by
 have h : ∃l',aa l=aa l':=⟨l,rfl⟩
 unfold fD
 rw[dif_pos h,←lJ h.choose_spec]
end Go.Am
end
section
namespace Go.Proofs.YtddfgnmjecogdaaDoor.N
open Go Go.Am
end Go.Proofs.YtddfgnmjecogdaaDoor.N
end
section
namespace Go.Am
open Go.RowKit
section
variable {P:Program} {E:Env} {g:Gh} {m:Mem} {w:World}
theorem Rel.AR (h:Rel g m w) {i:Nat} {l l':List AV} (hb:m[i]? = some (.ac l)) (hl : ∀vs,bN g w l vs→bN g w l' vs) :
  Rel g (m.set i (.ac l')) w∧cr g m w g (m.set i (.ac l')) w:=by
 have own : ∀(j:Nat) (x:aH),(m.set i (.ac l'))[j]? = some x→x.bX=true → ∃y:aH,m[j]? = some y∧y.bX=true:=fun j x hj ho=>by
  rcases aq hj with⟨rfl,_⟩ | ⟨_,q⟩
  · exact⟨_,hb,rfl⟩
  · exact⟨x,q,ho⟩
 refine⟨⟨fun j hj=>h.rJ j (by simpa using hj),fun j hj=> ?_,fun j x cs hj hx=> ?_,fun j c hj hc=> ?_,fun j q x x' c hj hq ho ho' hc dJ=> ?_,h.there,fun j k1 l1 hj=> ?_⟩,
  ⟨df _,fun _ _ _=>rfl,fun _ _ p=>⟨p,rfl⟩,fun _ _ p=> .inl p,fun c ho=> ?_,rfl,rfl,rfl⟩⟩
 · rcases aq hj with⟨_,q⟩ | ⟨_,q⟩
   · cases q
   · exact h.free j q
 · rcases aq hj with⟨rfl,rfl⟩ | ⟨_,q⟩
   · simp only[aH.cells?,Option.some.injEq] at hx
     subst hx
     obtain⟨c',cs',e,q,k1,k2,k3,k4,k5⟩:=h.cells _ _ _ hb rfl
     exact⟨c',cs',e,q,k1,k2,k3,⟨hl _ k4.1,k4.2⟩,k5⟩
   · exact h.cells j x cs q hx
 · rcases aq hj with⟨_,q⟩ | ⟨_,q⟩
   · cases q
   · exact h.tok j c q hc
 · obtain⟨y,y1,y2⟩:=own j x hj ho
   obtain⟨z,z1,z2⟩:=own q x' hq ho'
   exact h.inj j q y z c y1 z1 y2 z2 hc dJ
 · rcases aq hj with⟨_,q⟩ | ⟨_,q⟩
   · cases q
   · exact h.obs j k1 l1 q
 · obtain⟨j,x,hj,hx,hc⟩:=ho
   obtain⟨y,y1,y2⟩:=own j x hj hx
   exact .inl ⟨j,y,y1,y2,hc⟩
def Gh.nS (g:Gh) (b aO:Nat):Gh:=match g.aP b with
 |some c=>g.put aO c (g.lo b) (g.hi b)
 |none=>g
theorem Gh.zw {b aO:Nat} (hf:g.aP aO=none):Ext g w (g.nS b aO) w:=by
 unfold Gh.nS
 cases hc:g.aP b with
 |none=>exact Ext.refl g w
 |some c=>
  refine⟨fun j c' hj=> ?_,fun _ _ p=>⟨p,rfl⟩⟩
  have:j≠aO:=fun e=>by subst e;rw[hf] at hj;cases hj
  simp[Gh.put,this,hj]
theorem Rel.J5 (h:Rel g m w) {b aO:Nat} (hb:m[b]? = some .tok) (hn:m[aO]? = some .free) :
  Rel (g.nS b aO) ((m.set b .dead).set aO .tok) w∧cr g m w (g.nS b aO) ((m.set b .dead).set aO .tok) w:=by
 have hf:=h.free aO hn
 have ext:=Gh.zw (g:=g) (w:=w) (b:=b) hf
 have hne:b≠aO:=fun e=>by subst e;rw[hb] at hn;cases hn
 cases hc:g.aP b with
 |none=>
  obtain⟨k1,k2⟩:=h.kill b
  have hn':(m.set b .dead)[aO]? = some .free:=by rw[ph hne];exact hn
  obtain⟨t1,t2⟩:=k1.qw hn'
  have e:g.nS b aO=g:=by unfold Gh.nS;rw[hc]
  rw[e]
  exact⟨t1,k2.trans t2⟩
 |some c=>
  have em:g.nS b aO=g.put aO c (g.lo b) (g.hi b):=by unfold Gh.nS;rw[hc]
  rw[em] at ext ⊢
  have get : ∀j x,((m.set b .dead).set aO .tok)[j]? = some x→(j=aO∧x = .tok)∨x = .dead∨(j≠aO∧j≠b∧m[j]? = some x):=by
   intro j x hj
   rcases aq hj with⟨e,q⟩ | ⟨hjn,q⟩
   · exact .inl ⟨e,q⟩
   · rcases aq q with⟨_,q⟩ | ⟨mU,q⟩
     · exact .inr (.inl q)
     · exact .inr (.inr ⟨hjn,mU,q⟩)
  have bo : ∀j,j≠aO→(g.put aO c (g.lo b) (g.hi b)).aP j=g.aP j:=fun j hj=>by simp[Gh.put,hj]
  have bi:(g.put aO c (g.lo b) (g.hi b)).aP aO=some c:=by simp[Gh.put]
  have ne : ∀j x c',j≠b→m[j]? = some x→x.bX=true→g.aP j=some c'→c'≠c:=fun j x c' mU hj ho dJ e=>mU (h.inj j b x _ c hj hb ho rfl (e▸dJ) hc)
  refine⟨⟨fun j hj=> ?_,fun j hj=> ?_,fun j x kk hj hk=> ?_,fun j c' hj dJ=> ?_,fun j q x x' c' hj hk ho ho' eI ff=> ?_,h.there,fun j kk ll hj=> ?_⟩,⟨df _,fun _ _ _=>rfl,fun _ _ p=>⟨p,rfl⟩,fun _ _ p=> .inl p,fun c' ho=> ?_,rfl,rfl,rfl⟩⟩
  · have hl:=aV hn
    simp only[List.length_set] at hj
    rw[bo j (by omega)];exact h.rJ j hj
  · rcases get j _ hj with⟨_,e⟩ | e | ⟨hjn,_,e⟩
    · cases e
    · cases e
    · rw[bo j hjn];exact h.free j e
  · rcases get j _ hj with⟨_,e⟩ | e | ⟨hjn,mU,e⟩
    · subst e;cases hk
    · subst e;cases hk
    · obtain⟨c1,cs1,e1,n1,q1,q2,q3,q4,q5⟩:=h.cells j x kk e hk
      exact⟨c1,cs1,e1,n1,(bo j hjn).trans q1,q2,q3,q4.mono ext,q5⟩
  · rcases get j _ hj with⟨rfl,e⟩ | e | ⟨hjn,mU,e⟩
    · rw[bi] at dJ
      cases dJ
      obtain⟨cs1,e1,n1,q2,q3,q4,q5⟩:=h.tok b c hb hc
      have e1:(g.put j c (g.lo b) (g.hi b)).hi j=g.hi b:=by simp[Gh.put]
      have e2:(g.put j c (g.lo b) (g.hi b)).lo j=g.lo b:=by simp[Gh.put]
      rw[e1,e2]
      exact⟨cs1,_,n1,q2,q3,q4,q5⟩
    · cases e
    · rw[bo j hjn] at dJ
      obtain⟨cs1,e1,n1,q2,q3,q4,q5⟩:=h.tok j c' e dJ
      have e1:(g.put aO c (g.lo b) (g.hi b)).hi j=g.hi j:=by simp[Gh.put,hjn]
      have e2:(g.put aO c (g.lo b) (g.hi b)).lo j=g.lo j:=by simp[Gh.put,hjn]
      rw[e1,e2]
      exact⟨cs1,_,n1,q2,q3,q4,q5⟩
  · rcases get j _ hj with⟨rfl,e⟩ | e | ⟨hjn,mU,e⟩
    · rcases get q _ hk with⟨rfl,_⟩ | e' | ⟨GN,Oe,e'⟩
      · rfl
      · subst e';simp[aH.bX] at ho'
      · rw[bi] at eI;cases eI
        rw[bo q GN] at ff
        exact absurd rfl (ne q x' _ Oe e' ho' ff)
    · subst e;simp[aH.bX] at ho
    · rcases get q _ hk with⟨rfl,_⟩ | e' | ⟨GN,Oe,e'⟩
      · rw[bi] at ff;cases ff
        rw[bo j hjn] at eI
        exact absurd rfl (ne j x _ mU e ho eI)
      · subst e';simp[aH.bX] at ho'
      · rw[bo j hjn] at eI;rw[bo q GN] at ff
        exact h.inj j q x x' c' e e' ho ho' eI ff
  · rcases get j _ hj with⟨rfl,e⟩ | e | ⟨hjn,mU,e⟩
    · cases e
    · cases e
    · obtain⟨c1,o1,vs1,q1,q2,q3,q4,q5,q6⟩:=h.obs j kk ll e
      exact⟨c1,o1,vs1,(bo j hjn).trans q1,q2,q3.mono ext,q4,q5,by simpa[Gh.put,hjn] using q6⟩
  · obtain⟨j,x,hj,hx,rK⟩:=ho
    rcases get j _ hj with⟨rfl,e⟩ | e | ⟨hjn,mU,e⟩
    · rw[bi] at rK;cases rK
      exact .inl ⟨b,_,hb,rfl,hc⟩
    · subst e;simp[aH.bX] at hx
    · rw[bo j hjn] at rK
      exact .inl ⟨j,x,e,hx,rK⟩
theorem dK.HO {c:bB} {len sz:Nat} {X:List PV} {r:Mem} {o:Out} (hm:c.st.mem = .tok :: .ac [.os (some 0) len sz X]::r) (hc:jg c=true)
  (h:dK P E {c with st:={c.st with mem:= .dead :: .ac [.os (some (r.length+2)) len sz X]::r++[.tok]}} o):dK P E c o:=by
 refine dK.au (fun g fr w hr cs=> ?_) h
 obtain⟨f,todo,st⟩:=c
 obtain⟨tm,nt,mem,fix,bT,bK⟩:=st
 dsimp only at hm
 subst hm
 match todo,hc with
 |.code i x::k,_=>
  obtain⟨b,a,q1,q2,q3,q4,q5,q6⟩:=hr
  have hJ:Rel g (.tok :: .ac [.os (some 0) len sz X]::r) w:=q5.rel
  obtain⟨f1,f2⟩:=hJ.bC 1
  have hb:((.tok :: .ac [.os (some 0) len sz X]::r:Mem)++bC 1)[0]? = some .tok:=rfl
  have hlen:(.tok :: .ac [.os (some 0) len sz X]::r:Mem).length=r.length+2:=rfl
  have hn:((.tok :: .ac [.os (some 0) len sz X]::r:Mem)++bC 1)[r.length+2]? = some .free:=by
   rw[Va (by rw[hlen];exact df _),hlen,Vo];rfl
  have hf:=f1.free _ hn
  have ext:=Gh.zw (g:=g) (w:=w) (b:=0) hf
  obtain⟨m1,m2⟩:=f1.J5 hb hn
  have BO:((((.tok :: .ac [.os (some 0) len sz X]::r:Mem)++bC 1).set 0 .dead).set (r.length+2) .tok)[1]? = some (.ac [.os (some 0) len sz X]):=by
   rw[ph (by omega)];rfl
  obtain⟨z1,z2⟩:=m1.AR BO (l':=[.os (some (r.length+2)) len sz X]) fun vs hv=>by
   match vs,hv with
   |[v],hv=>
    refine⟨?_,trivial⟩
    have hv1:VA (g.nS 0 (r.length+2)) w (.os (some 0) len sz X) v:=hv.1
    cases hv1 with
    |os _ _ _ _ a' cap h' hr'=>
     refine .os _ _ _ _ a' cap h' ?_
     rcases hr' with hr' | ⟨t,b',o',e1,e2,e3,e4,e5,e6⟩
     · exact .inl hr'
     · cases e1
       unfold Gh.nS at e3 e4 e5 ⊢
       cases hc0:g.aP 0 with
       |none=>
        rw[hc0] at e3
        dsimp only at e3
        rw[hc0] at e3;cases e3
       |some c0=>
        rw[hc0] at e3 e4 e5
        dsimp only at e3 e4 e5 ⊢
        have h0:(0:Nat)≠r.length+2:=by omega
        simp only[Gh.put,h0,if_false] at e3 e4 e5
        rw[hc0] at e3
        cases e3
        exact .inr ⟨_,_,o',rfl,e2,by simp[Gh.put],by simpa[Gh.put] using e4,by simpa[Gh.put] using e5,e6⟩
  have hmem:((((.tok :: .ac [.os (some 0) len sz X]::r:Mem)++bC 1).set 0 .dead).set (r.length+2) .tok).set 1 (.ac [.os (some (r.length+2)) len sz X]) = .dead :: .ac [.os (some (r.length+2)) len sz X]::r++[.tok]:=by
   simp[bC]
  rw[hmem] at z1 z2
  refine⟨_,fr,w,Steps.refl _ _,⟨b,a,q1,q2,q3.ext (fun i c q=>(ext.aP i c q).1),q4.ext (fun i c q=>(ext.aP i c q).1),⟨fun k=>(q5.tm k).mono ext,q5.nt,z1,?_,q5.cL.mono fun c o p=>(ext.pure c o p)⟩,q6⟩,(f2.trans m2).trans z2,fun k c' hk dJ=> ?_,rfl,rfl,rfl⟩
  · have:=q5.fix
    simp only[ei,pa,VS] at this ⊢
    omega
  · have:=(ext.aP k c' dJ)
    exact this
theorem aG.qc {f:FuncId} {args:List AV} {sz:Nat} {v:AV} {m':Mem} (hz:1≤sz) (h:aG P E f (.os (some 0) 0 sz []::args) [.tok] v m'):aG P E f (.os none 0 0 []::args) [] v m':=by
 refine⟨h.1,fun g w cK cs hr hv hg=> ?_⟩
 have hf:g.aP 0=none:=hr.rJ 0 (df _)
 have L5:Rel g [.tok] w:=by
  have h1:=(hr.bC 1).1
  have h2:=(h1.qw (i:=0) rfl).1
  exact h2
 have own : ∀c,¬cA g ([.tok]:Mem) c:=fun c ho=>by
  obtain⟨i,b,hi,_,hc⟩:=ho
  match i,hi with
  |0,_=>rw[hf] at hc;cases hc
 match hl:cK.toList,hv with
 |x::xs,hv=>
  have hx:VA g w (.os (some 0) 0 sz []) x:=by
   have h1:VA g w (.os none 0 0 []) x:=hv.1
   cases h1 with
   |os _ _ _ _ a cap h' hr'=>
    have hcap:cap=0:=by
     rcases hr' with h | ⟨t,b,o,e,_⟩
     · exact h
     · cases e
    subst hcap
    exact .os _ _ _ _ a 0 (.mT sz a 0 (.inl hz)) (.inl rfl)
  obtain⟨w',g',cv,fr,s1,s2,s3,s4,s5,s6,s7,s8⟩:=h.2 g w cK cs L5 (by rw[hl];exact⟨hx,hv.2⟩) hg
  refine⟨w',g',cv,fr,s1,s2,s3,s4,s5,⟨s6.size,fun c hc ho=>s6.keep c hc (own c),s6.pure,fun c o hp=> ?_,fun c ho=> ?_,s6.os,s6.tape,s6.output⟩,fun k c hk hc=>absurd hk (Nat.not_lt_zero _),Vr _⟩
  · rcases s6.fresh c o hp with q | q | q
    · exact .inl q
    · exact absurd q (own c)
    · exact .inr (.inr q)
  · rcases s6.owned c ho with q | q
    · exact absurd q (own c)
    · exact .inr q
def xe (n sz j:Nat):rM→rM
 |[]=>[]
 |(k,v)::r=>(k,cond (be k j) (.os (some n) 0 sz []) v)::xe n sz j r
theorem VA.qc {t sz:Nat} {x:Value} (hz:1≤sz) (h:VA g w (.os none 0 0 []) x):VA g w (.os (some t) 0 sz []) x:=by
 cases h with
 |os _ _ _ _ a cap h' hr'=>
  have hcap:cap=0:=by
   rcases hr' with h | ⟨t,b,o,e,_⟩
   · exact h
   · cases e
  subst hcap
  exact .os _ _ _ _ a 0 (.mT sz a 0 (.inl hz)) (.inl rfl)
theorem qd {n sz j:Nat} : ∀{tm:rM},look tm j = .os none 0 0 [] → ∀k,look (xe n sz j tm) k=look tm k∨(look tm k = .os none 0 0 []∧look (xe n sz j tm) k = .os (some n) 0 sz [])
 |[],_,_=> .inl rfl
 |(i,v)::r,h,k=>by
  simp only[look,xe] at h ⊢
  cases hi:be i j with
  |true=>
   rw[hi] at h
   cases hk:be i k with
   |true=>exact .inr ⟨h,rfl⟩
   |false=>
    simp only[cond_false]
    clear h
    obtain rfl:=bm hi
    by_cases hr:look r i = .os none 0 0 []
    · exact qd hr k
    · exact .inl (xg hk)
  |false=>
   rw[hi] at h
   cases hk:be i k with
   |true=>exact .inl rfl
   |false=>exact qd h k
where
 xg {n sz i k:Nat} (hk:be i k=false) : ∀{r:rM},look (xe n sz i r) k=look r k
  |[]=>rfl
  |(a,v)::r=>by
   simp only[look,xe]
   cases ha:be a k with
   |true=>
    obtain rfl:=bm ha
    have:be a i=false:=by
     cases TT:be a i with
     |false=>rfl
     |true=>obtain rfl:=bm TT;rw[Nat.beq_refl] at hk;cases hk
    rw[this];rfl
   |false=>exact xg hk
theorem dK.qc {c:bB} {o:Out} (j sz:Nat) (hz:1≤sz) (hj:look c.st.tm j = .os none 0 0 []) (hc:jg c=true)
  (h:dK P E {c with st:={c.st with tm:=xe c.st.mem.length sz j c.st.tm,mem:=c.st.mem++[.tok]}} o):dK P E c o:=by
 refine dK.au (fun g fr w hr cs=> ?_) h
 obtain⟨f,todo,st⟩:=c
 obtain⟨tm,nt,mem,fix,bT,bK⟩:=st
 dsimp only at hj h ⊢
 match todo,hc with
 |.code i x::k,_=>
  obtain⟨b,a,q1,q2,q3,q4,q5,q6⟩:=hr
  have hJ:Rel g mem w:=q5.rel
  obtain⟨f1,f2⟩:=hJ.bC 1
  have hn:(mem++bC 1)[mem.length]? = some .free:=by rw[Va (df _),Vo];rfl
  obtain⟨z1,z2⟩:=f1.qw hn
  have hmem:(mem++bC 1).set mem.length .tok=mem++[.tok]:=by simp[bC]
  rw[hmem] at z1 z2
  refine⟨g,fr,w,Steps.refl _ _,⟨b,a,q1,q2,q3,q4,⟨fun k=> ?_,q5.nt,z1,?_,q5.cL⟩,q6⟩,f2.trans z2,bn.refl _ _,rfl,rfl,rfl⟩
  · rcases qd (n:=mem.length) (sz:=sz) hj k with e | ⟨e1,e2⟩
    · dsimp only;rw[e];exact q5.tm k
    · dsimp only;rw[e2]
      have:=q5.tm k
      dsimp only at this
      rw[e1] at this
      exact VA.qc hz this
  · have:=q5.fix
    dsimp only at this ⊢
    rw[ei]
    omega
end
end Go.Am
end
section
set_option linter.unusedSimpArgs false
set_option linter.unusedVariables false
namespace Go.Proofs.YtddfgnmjecogdaaDoor.N
open Go Go.Am
def TU (n:Int) (k:Nat) (X:List PV) (f:FuncId) (_:List AV) (m:Mem):Option (AV×Mem):=cond (be f 59) (some (.p (.ps k 1 X),m)) none
def TV (n:Int) (k:Nat) (X:List PV) (f:FuncId) (_:List AV) (m:Mem):Option (AV×Mem):=cond (be f 74) (some (.p (.ps k 1 X),m)) none
def Pb (n:Int) (k:Nat) (X:List PV):gQ:=fy (TU n k X) cC [] [] []
def RC:Sc:= .fin
def HP (n:Int) (k:Nat) (X:List PV):aN:=
 (.call ⟨59,[sI .u32 n,.fn (V2 60) [] []],[],.p (.ps k 1 X),[]⟩
 (.out (.ret (.p (.ps k 1 X)) [])))
theorem J6 (n:Int) (k:Nat) (X:List PV):dF ae env (Pb n k X) 1000000 35 ([sI VO n]) ([]) RC=HP n k X:=by kernel_rfl
def Pc:gQ:=fy dY cC [(59,0)] [] []
def RD:Sc:= .fin
def HQ (n:Int):aN:=
 (.at (aj ae env 59 0 [sI .u32 n,.fn (V2 60) [] [],cD] ([]) 0 25))
theorem J7 (n:Int):dF ae env Pc 1000000 59 ([sI VO n,AV.fn (V2 60) [] []]) ([]) RD=HQ n:=by kernel_rfl
def MT:gQ:=fy dY cC [(59,0)] [(59,0,1)] [(59,6,3),(59,7,4)]
def Pd:Sc:= .fin
def AS (n:Int) (k:Nat) (X:List PV):aN:=
 (.test (n.fdiv 128==0)
 (.must (((k+1)*1).ble b7&&(k+1).ble b7&&true)
 (.out (.ret (.os (some 0) (k+1) 1 (X++[.sc (.int .u8 (V8.wrap (VO.wrap (↑(du 32 n&&&du 32 127).toNat:Int))))])) [.tok])))
 (.must (((k+1)*1).ble b7&&(k+1).ble b7&&true)
 (.at (aj ae env 59 0 [sI .u32 (n.fdiv 128),.fn (V2 60) [] [],.os (some 0) (k+1) 1 (X++[.sc (.int .u8 (V8.wrap (↑(du 8 (V8.wrap (VO.wrap (↑(du 32 n&&&du 32 127).toNat:Int)))|||du 8 128).toNat:Int)))])] ([.tok]) 0 25))))
theorem Cl (n:Int) (k:Nat) (X:List PV):grow ae env MT 1000000 true (aj ae env 59 0 ([sI VO n,AV.fn (V2 60) [] [],AV.os (Option.some 0) k 1 X]) ([aH.tok]) 0 25) Pd atEnd=AS n k X:=by kernel_rfl
def Pe (n:Int) (k:Nat) (X:List PV):gQ:=fy (TV n k X) cC [] [] []
def RE:Sc:= .fin
def HR (n:Int) (k:Nat) (X:List PV):aN:=
 (.call ⟨74,[sI .i32 n,.fn (V2 75) [] []],[],.p (.ps k 1 X),[]⟩
 (.out (.ret (.p (.ps k 1 X)) [])))
theorem J8 (n:Int) (k:Nat) (X:List PV):dF ae env (Pe n k X) 1000000 52 ([sI V9 n]) ([]) RE=HR n k X:=by kernel_rfl
def Pf:gQ:=fy dY cC [(74,0)] [] []
def RF:Sc:= .fin
def HS (n:Int):aN:=
 (.at (aj ae env 74 0 [sI .i32 n,.fn (V2 75) [] [],cD] ([]) 0 25))
theorem J9 (n:Int):dF ae env Pf 1000000 74 ([sI V9 n,AV.fn (V2 75) [] []]) ([]) RF=HS n:=by kernel_rfl
def MU:gQ:=fy dY cC [(74,0)] [(75,2,3),(75,2,8),(75,2,11),(74,0,1)] [(74,6,3),(74,7,4)]
def Pg:Sc:=(.fork (.fork (.lit .fin) (.no (.lit .fin))) (.lit (.fork .fin (.lit .fin))))
def iI (n:Int) (k:Nat) (X:List PV):aN:=
 (.must (((k+1)*1).ble b7&&(k+1).ble b7&&true) (.at (aj ae env 74 0 [sI .i32 (n.fdiv 128),.fn (V2 75) [] [],.os (some 0) (k+1) 1 (X++[.sc (.int .u8 (V8.wrap (↑(du 8 (V8.wrap (V9.wrap (↑(du 32 n&&&du 32 127).toNat:Int)))|||du 8 128).toNat:Int)))])] ([.tok]) 0 25)))
def jy (n:Int) (k:Nat) (X:List PV):aN:=
 (.must (((k+1)*1).ble b7&&(k+1).ble b7&&true) (.out (.ret (.os (some 0) (k+1) 1 (X++[.sc (.int .u8 (V8.wrap (V9.wrap (↑(du 32 n&&&du 32 127).toNat:Int))))])) [.tok])))
def rA (n:Int) (k:Nat) (X:List PV):aN:=
 (.test (n.fdiv 128==0)
 (.test (V8.wrap (↑(du 8 (V8.wrap (V9.wrap (↑(du 32 n&&&du 32 127).toNat:Int)))&&&du 8 64).toNat:Int)==0)
 (jy n k X)
 (.must (!(n.fdiv 128 == -1))
 (iI n k X)))
 (.test (n.fdiv 128 == -1)
 (.test (V8.wrap (↑(du 8 (V8.wrap (V9.wrap (↑(du 32 n&&&du 32 127).toNat:Int)))&&&du 8 64).toNat:Int) != 0)
 (jy n k X)
 (iI n k X))
 (iI n k X)))
theorem Cm (n:Int) (k:Nat) (X:List PV):grow ae env MU 1000000 true (aj ae env 74 0 ([sI V9 n,AV.fn (V2 75) [] [],AV.os (Option.some 0) k 1 X]) ([aH.tok]) 0 25) Pg atEnd=rA n k X:=by kernel_rfl
def bt (l:List Nat):List PV:=l.map fun(c:Nat)=> .sc (.int .u8 (c:Int))
theorem dO (l:List Nat):(bt l).length=l.length:=by simp[bt]
theorem zx (a b:List Nat):bt (a++b)=bt a++bt b:=by simp[bt]
theorem Ew (X:List PV) (c:Nat) (l:List Nat):(X++[.sc (.int .u8 (c:Int))])++bt l=X++bt (c::l):=by simp[bt]
def pU:Nat→Nat→List Nat
 |0,n=>[n%128]
 |f+1,n=>if n / 128=0 then[n%128] else(n%128+128)::pU f (n / 128)
def pS:Nat→Int→List Nat
 |0,n=>[(n%128).toNat]
 |f+1,n=>if -64≤n∧n≤63 then[(n%128).toNat] else((n%128).toNat+128)::pS f (n / 128)
theorem nX : ∀(f n:Nat),(pU f n).length≤f+1
 |0,_=>df _
 |f+1,n=>by
  unfold pU
  split
  · simp
  · simp only[pa];have:=nX f (n / 128);omega
theorem DD : ∀(f:Nat) (n:Int),(pS f n).length≤f+1
 |0,_=>df _
 |f+1,n=>by
  unfold pS
  split
  · simp
  · simp only[pa];have:=DD f (n / 128);omega
theorem sU (n:Int):(du 32 n&&&du 32 127).toNat=(n%128).toNat:=by
 rw[BitVec.toNat_and,Wc,Wc,show((127:Int)%((2 ^ 32:Nat):Int)).toNat=2 ^ 7-1 from by decide,Nat.and_two_pow_sub_one_eq_mod]
 omega
theorem HT : ∀m:Nat,m<128→(du 8 (m:Int)|||du 8 128).toNat=m+128:=by decide +kernel
theorem Lt : ∀m:Nat,m<128→(du 8 (m:Int)&&&du 8 64).toNat=(if m<64 then 0 else 64):=by decide +kernel
theorem DE {n:Int} (h0:0≤n) (h1:n<256):V8.wrap n=n:=by rw[SI];omega
theorem Ex {n:Int} (h0 : -2147483648≤n) (h1:n<2147483648):V9.wrap n=n:=by rw[Mz];omega
theorem Ka : ∀(f n:Nat) (X:List PV),n<128 ^ (f+1)→n<4294967296→X.length+f≤1000000000000→f≤100 →
  dK ae env (aj ae env 59 0 [sI .u32 n,.fn (.func 60) [] [],.os (some 0) X.length 1 X] [.tok] 0 25) (.ret (.os (some 0) (X++bt (pU f n)).length 1 (X++bt (pU f n))) [.tok]):=by
 have cY:b7=70368744177664:=rfl
 intro f
 induction f with
 |zero=>
  intro n X h1 h2 h3 _
  have h1':n<128:=by simpa using h1
  have d:(n:Int).fdiv 128=0:=by rw[Wd _ (by decide)];omega
  have e1:(((n:Int)%128).toNat:Int)=((n%128:Nat):Int):=by omega
  refine aC cV (Cl n X.length X) ?_
  simp(disch:=omega) only[AS,aN.ok,d,sU,e1,zm,DE,cY,V6,dv,and_true,pU,bt,pA,H3,ei,pa,VS]
  simp only[beq_self_eq_true,Wa,false_implies,true_implies,and_true]
  exact⟨by omega,by omega⟩
 |succ f ih=>
  intro n X h1 h2 h3 hf
  have d:(n:Int).fdiv 128=((n / 128:Nat):Int):=by rw[Wd _ (by decide)];omega
  have e1:(((n:Int)%128).toNat:Int)=((n%128:Nat):Int):=by omega
  have e2:=HT (n%128) (by omega)
  refine aC cV (Cl n X.length X) ?_
  simp(disch:=omega) only[AS,aN.ok,d,sU,e1,e2,zm,DE,cY,V6,dv,and_true]
  refine⟨fun h=>⟨⟨by omega,by omega⟩,?_⟩,fun h=>⟨⟨by omega,by omega⟩,?_⟩⟩
  · have h0:n / 128=0:=by have:=eq_of_beq h;omega
    simp[pU,h0,bt]
  · have h0 : ¬n / 128=0:=by intro e;rw[e] at h;cases h
    have k:=ih (n / 128) (X++[.sc (.int .u8 ((n%128+128:Nat):Int))]) (by rw[Nat.pow_succ] at h1;exact Nat.div_lt_of_lt_mul (by rw[Nat.mul_comm];exact h1)) (by omega) (by simp only[ei,pa,VS];omega) (by omega)
    have e3:pU (f+1) n=(n%128+128)::pU f (n / 128):=by rw[pU,if_neg h0]
    rw[Ew] at k
    rw[e3]
    simpa only[ei,pa,VS,sa] using k
theorem aG.HU {f:FuncId} {args:List AV} {n:Nat} {X:List PV} (h:aG ae env f args [] (.os (some 0) n 1 X) [.tok]):aG ae env f args [] (.p (.ps n 1 X)) []:=aG.pure h
theorem zy (n:Nat) (h:n<4294967296):aG ae env 35 [sI .u32 n] [] (.p (.ps (pU 4 n).length 1 (bt (pU 4 n)))) []:=by
 refine ak cV (J6 n (pU 4 n).length (bt (pU 4 n))) ?_
 simp only[HP,aN.ok,and_true]
 refine aG.HU (ak cV (J7 n) ?_)
 simp only[HQ,ct,aN.ok]
 have k:=Ka 4 n [] (by omega) h (by simp) (by omega)
 rw[Vl,dO] at k
 exact dK.qc 5 1 (df 1) rfl rfl k
theorem Kb : ∀(f:Nat) (n:Int) (X:List PV),-(64*128 ^ f)≤n→n<64*128 ^ f → -2147483648≤n→n<2147483648→X.length+f≤1000000000000→f≤100 →
  dK ae env (aj ae env 74 0 [sI .i32 n,.fn (.func 75) [] [],.os (some 0) X.length 1 X] [.tok] 0 25) (.ret (.os (some 0) (X++bt (pS f n)).length 1 (X++bt (pS f n))) [.tok]):=by
 have cY:b7=70368744177664:=rfl
 intro f
 induction f with
 |zero=>
  intro n X h1 h2 h4 h5 h3 _
  have d:n.fdiv 128=n / 128:=Wd _ (by decide)
  obtain⟨m,hm⟩ : ∃m:Nat,(n%128).toNat=m:=⟨_,rfl⟩
  have hm1:n=128*(n / 128)+m∧m<128:=by omega
  have e1:=Lt m hm1.2
  have e2:=HT m hm1.2
  refine aC cV (Cm n X.length X) ?_
  by_cases h6:m<64
  · have h7:n / 128=0:=by omega
    rw[if_pos h6] at e1
    simp(disch:=omega) only[rA,iI,jy,aN.ok,d,sU,hm,Ex,DE,e1,e2,cY,V6,dv,and_true,h7,show((0:Int)==0)=true from rfl,Wa,false_implies,true_implies,show(((0:Nat):Int)==0)=true from rfl,pS,bt,pA,H3,ei,pa,VS]
    exact⟨by omega,by omega⟩
  · have h7:n / 128 = -1:=by omega
    rw[if_neg h6] at e1
    simp(disch:=omega) only[rA,iI,jy,aN.ok,d,sU,hm,Ex,DE,e1,e2,cY,V6,dv,and_true,h7,show((-1:Int)==0)=false from rfl,show((-1:Int) == -1)=true from rfl,Wa,rh,false_implies,true_implies,true_and,show(((64:Nat):Int) != 0)=true from rfl,pS,bt,pA,H3,ei,pa,VS]
    exact⟨by omega,by omega⟩
 |succ f ih=>
  intro n X h1 h2 h4 h5 h3 hf
  have d:n.fdiv 128=n / 128:=Wd _ (by decide)
  obtain⟨m,hm⟩ : ∃m:Nat,(n%128).toNat=m:=⟨_,rfl⟩
  have hm1:n=128*(n / 128)+m∧m<128:=by omega
  have e1:=Lt m hm1.2
  have e2:=HT m hm1.2
  have hb:(X.length+1)*1≤70368744177664∧X.length+1≤70368744177664:=⟨by omega,by omega⟩
  have more : ¬(-64≤n∧n≤63)→dK ae env (aj ae env 74 0 [sI .i32 (n / 128),.fn (.func 75) [] [],.os (some 0) (X.length+1) 1 (X++[.sc (.int .u8 ((m+128:Nat):Int))])] [.tok] 0 25) (.ret (.os (some 0) (X++bt (pS (f+1) n)).length 1 (X++bt (pS (f+1) n))) [.tok]):=fun h0=>by
   have hp:(128:Int) ^ (f+1)=128*128 ^ f:=by rw[Int.pow_succ,Int.mul_comm]
   have k:=ih (n / 128) (X++[.sc (.int .u8 ((m+128:Nat):Int))]) (by rw[hp] at h1;omega) (by rw[hp] at h2;omega) (by omega) (by omega) (by simp only[ei,pa,VS];omega) (by omega)
   have e3:pS (f+1) n=(m+128)::pS f (n / 128):=by rw[pS,if_neg h0,hm]
   rw[Ew] at k
   rw[e3]
   simpa only[ei,pa,VS,sa] using k
  have last:(-64≤n∧n≤63)→Out.ret (.os (some 0) (X.length+1) 1 (X++[.sc (.int .u8 (m:Int))])) [.tok] = .ret (.os (some 0) (X++bt (pS (f+1) n)).length 1 (X++bt (pS (f+1) n))) [.tok]:=fun h0=>by
   rw[pS,if_pos h0,hm];simp[bt]
  refine aC cV (Cm n X.length X) ?_
  by_cases h6:m<64
  · rw[if_pos h6] at e1
    simp(disch:=omega) only[rA,iI,jy,aN.ok,d,sU,hm,Ex,DE,e1,e2,cY,V6,dv,and_true,Wa,rh,false_implies,true_implies,true_and,show(((0:Nat):Int)==0)=true from rfl,show(((0:Nat):Int) != 0)=false from rfl]
    refine⟨fun h=>⟨hb,last ?_⟩,fun h=>⟨fun _=>⟨hb,more ?_⟩,fun _=>⟨hb,more ?_⟩⟩⟩
    · have:n / 128=0:=eq_of_beq h
      omega
    · have : ¬n / 128=0:=fun e=>by rw[e] at h;cases h
      omega
    · have : ¬n / 128=0:=fun e=>by rw[e] at h;cases h
      omega
  · rw[if_neg h6] at e1
    simp(disch:=omega) only[rA,iI,jy,aN.ok,d,sU,hm,Ex,DE,e1,e2,cY,V6,dv,and_true,Wa,rh,false_implies,true_implies,true_and,show(((64:Nat):Int)==0)=false from rfl,show(((64:Nat):Int) != 0)=true from rfl]
    refine⟨fun h=>⟨?_,hb,more ?_⟩,fun _=>⟨fun h=>⟨hb,last ?_⟩,fun h=>⟨hb,more ?_⟩⟩⟩
    · have:n / 128=0:=eq_of_beq h
      rw[this];rfl
    · have:n / 128=0:=eq_of_beq h
      omega
    · have:n / 128 = -1:=eq_of_beq h
      omega
    · have : ¬n / 128 = -1:=fun e=>by rw[e] at h;cases h
      omega
theorem FJ (n:Int) (h0 : -2147483648≤n) (h:n<2147483648):aG ae env 52 [sI .i32 n] [] (.p (.ps (pS 4 n).length 1 (bt (pS 4 n)))) []:=by
 refine ak cV (J8 n (pS 4 n).length (bt (pS 4 n))) ?_
 simp only[HR,aN.ok,and_true]
 refine aG.HU (ak cV (J9 n) ?_)
 simp only[HS,ct,aN.ok]
 have k:=Kb 4 n [] (by omega) (by omega) h0 h (by simp) (by omega)
 rw[Vl,dO] at k
 exact dK.qc 5 1 (df 1) rfl rfl k
mutual
def gK:Ins→List Nat
 |.mk op r a b nn tg ll le=>(op%256).toNat::(if dx op=true then(if r=1 then 127 else 64)::(fc ll++((if le.length=0 then[] else 5::fc le)++[11]))
    else if op=17 then pU 4 a.toNat++[0]
    else if gh op=true then pU 4 a.toNat
    else if op=14 then pU 4 tg.length++(tg.flatMap (fun t=>pU 4 t.toNat)++pU 4 a.toNat)
    else if op=63∨op=64 then[0]
    else if op=65 then pS 4 nn
    else if dG op=true then pU 4 a.toNat++pU 4 b.toNat
    else[])
def fc:List Ins→List Nat
 |[]=>[]
 |x::r=>gK x++fc r
end
theorem Cn : ∀tg:List Int,(tg.flatMap (fun t=>pU 4 t.toNat)).length≤5*tg.length
 |[]=>df _
 |t::r=>by
  have:=nX 4 t.toNat
  have:=Cn r
  simp only[List.flatMap_cons,ei,pa]
  omega
mutual
theorem Ey : ∀x:Ins,(gK x).length≤20*jh x
 |.mk op r a b nn tg ll le=>by
  have h1:=mC ll
  have h2:=mC le
  have h3:=nX 4 a.toNat
  have h4:=nX 4 b.toNat
  have h5:=DD 4 nn
  have h6:=nX 4 tg.length
  have h7:=Cn tg
  simp only[gK,jh,pa]
  repeat' split
  all_goals (try simp only[ei,pa,VS])
  all_goals omega
theorem mC : ∀l:List Ins,(fc l).length≤20*dL l
 |[]=>Vr _
 |x::r=>by
  have h1:=Ey x
  have h2:=mC r
  simp only[fc,dL,ei]
  omega
end
theorem AT {a:Int} (h:(Lit.int .u32 a).wf=true):0≤a∧a<4294967296:=by
 have h:VO.min≤a∧a≤VO.max:=by simpa[Lit.wf] using h
 exact⟨h.1,We h.2 (by decide)⟩
theorem HV {a:Int} (h:(Lit.int .i32 a).wf=true) : -2147483648≤a∧a<2147483648:=by
 have h:V9.min≤a∧a≤V9.max:=by simpa[Lit.wf] using h
 exact⟨h.1,We h.2 (by decide)⟩
theorem fL (n:Int):V8.wrap n=((n%256).toNat:Int):=by rw[SI];omega
def jU (n:Int):Nat:=(pU 4 n.toNat).length
def qU (n:Int):List PV:=bt (pU 4 n.toNat)
def jS (n:Int):Nat:=(pS 4 n).length
def qS (n:Int):List PV:=bt (pS 4 n)
def qL (cs:List PV):List PV:=fD [] (fun l=>bt (fc l)) cs
def jL (cs:List PV):Nat:=fD 0 (fun l=>(fc l).length) cs
theorem jm (l:List Ins):qL (aa l)=bt (fc l):=jZ _ _ l
theorem iB (l:List Ins):jL (aa l)=(fc l).length:=jZ _ _ l
theorem dg {a:Int} (h:0≤a∧a<4294967296):aG ae env 35 [sI .u32 a] [] (.p (.ps (jU a) 1 (qU a))) []:=by
 have:=zy a.toNat (by omega)
 rwa [show((a.toNat:Nat):Int)=a by omega] at this
theorem FK {a:Int} (h : -2147483648≤a∧a<2147483648):aG ae env 52 [sI .i32 a] [] (.p (.ps (jS a) 1 (qS a))) []:=FJ a h.1 h.2
theorem Co (n:Int):jU n≤5:=nX 4 _
theorem Ph (n:Int):jS n≤5:=DD 4 _
end Go.Proofs.YtddfgnmjecogdaaDoor.N
end
