import Derived.Test.YtdmmllcjgjmbbaaGreatDoorMO
import Derived.Test.YtdmmllcjgjmbbaaGreatDoorMH
open List renaming map→ab6,length_map→my,map_append→ab3,getD_eq_getElem?_getD→ch,map_take→afj,length_append→di,map_cons→oT,map_nil→wi,take_of_length_le→dq,append_assoc→xa,nil_append→QP,take→ab8,drop→afk
open Nat renaming zero_add→pw,ble_eq→aeN,sub_zero→abK,beq→ae,zero_mul→afl
open Go.Proofs.Tryz renaming prog→acb
open Option renaming none→acg,some→aci
open Go.IntKind renaming i64→sb
open Go.TypeInfo renaming mk→ace
open Go.TypeDesc renaming int→afm,bool→afn
open Go.Value renaming int→sT,bool→afo
open Bool renaming false_eq_true→pb,and_eq_true→c8,true_eq_false→ae5,and_true→aeq,true_and→aeM,not_false→ph,not_true→yi
open Int renaming toNat_natCast→acy
open Min renaming min→aco
open Max renaming max→acx
open And renaming intro→afp
noncomputable section
section
set_option linter.unusedSimpArgs false
namespace Go.Proofs.YtdmmllcjgjmbbaaGreatDoor.N
open Go Go.Am
structure Fr where
 op:Int
 base:Int
 res:Int
 dead:Bool
def aO:List Fr→List PV
 |[]=>[]
 |f::r=>frC f.op f.base f.res f.dead++aO r
theorem ir : ∀l:List Fr,(aO l).length=l.length*4
 |[]=>rfl
 |f::r=>by simp[aO,ir r];omega
theorem mV : ∀l m:List Fr,aO (l++m)=aO l++aO m
 |[],_=>rfl
 |f::r,m=>by simp[aO,mV r m]
theorem su : ∀{l:List Fr} {k:Nat} {f:Fr},l[k]? = some f → ∀(ex:List PV) (c:Nat),c<4→(ab6 AV.p (aO l++ex)).getD (k*4+c) .ah=(ab6 AV.p (frC f.op f.base f.res f.dead)).getD c .ah
 |[],_,_,h,_,_,_=>by simp at h
 |y::l,0,x,h,ex,c,hc=>by
  simp only[List.getElem?_cons_zero,Option.some.injEq] at h;subst h
  rw[aO,afl,pw,xa,ab3,ch,ch,List.getElem?_append_left (by simpa using hc)]
 |y::l,k+1,x,h,ex,c,hc=>by
  have ih:=su (l:=l) (k:=k) (f:=x) (by simpa using h) ex c hc
  rw[ch] at ih
  rw[aO,xa,ab3,ch,List.getElem?_append_right (by simp;omega),show(k+1)*4+c-(ab6 AV.p (frC y.op y.base y.res y.dead)).length=k*4+c by simp;omega]
  exact ih
theorem sv {l:List Fr} {k:Nat} {f:Fr} (h:l[k]? = some f) (ex:List PV) :
  (ab6 AV.p (aO l++ex)).getD (k*4) .ah=sI .i64 f.op∧(ab6 AV.p (aO l++ex)).getD (k*4+1) .ah=sI .i64 f.base ∧
  (ab6 AV.p (aO l++ex)).getD (k*4+2) .ah=sI .i64 f.res∧(ab6 AV.p (aO l++ex)).getD (k*4+3) .ah=sB f.dead:=
 ⟨su h ex 0 (by omega),su h ex 1 (by omega),su h ex 2 (by omega),su h ex 3 (by omega)⟩
def yK (h:Int):Int→List Fr→Prop
 |_,[]=>True
 |b,f::r=>(f.op=2∨f.op=3∨f.op=4∨f.op=5)∧b≤f.base∧f.base≤h∧0≤f.res∧f.res≤1∧yK h f.base r
def fV (h:Int):List Fr→Prop
 |[]=>False
 |f::r=>f.op=0∧f.base=0∧0≤f.res∧f.res≤1∧yK h 0 r∧0≤h∧h≤1073741824∧r.length+1≤1000
def ad4 (f:FuncId) (_:List AV) (m:Mem):Option (AV×Mem):=cond (ae f 178) (some (sB true,m)) none
def ad5 (_h _b:Int) (_n i:Nat) (_cs:List PV) (op base res:Int) (dead:Bool):FuncId→Nat→Nat→Option (AV→AV):=cM [(164,7,2,.agg [sI .i64 op,sI .i64 base,sI .i64 res,sB dead]),(164,12,0,sI .i64 ((i+1:Nat):Int))]
def Xh:bH:=aT aH aA [] [] [(165,4,2)]
def aaU:Sc:= .fin
def IM (k:Nat) (cs:List PV):az:=
 (.must (qE (ab8 ((k+1)*4) (afk 0 (ab6 AV.p cs)))&&(0+(k+1)*4).ble (ab6 AV.p cs).length&&(((0+(k+1))*32).ble gi&&(0+(k+1)).ble gi)&&true&&true)
 (.out (.ret (.ms 1 0 (0+(k+1)) 4 none) [.ob (aD.gr 160 true) (ab6 aa (ab6 AV.p cs)),.ob (aD.gr 160 true) (ab6 aa ([]++ab6 AV.p (ab6 zg (ab8 ((k+1)*4) (afk 0 (ab6 AV.p cs))))))])))
theorem OK (k:Nat) (cs:List PV):aG acb env Xh 1000000 165 ([AV.ms 0 0 (k+1) 4 acg]) ([dc cs]) aaU=IM k cs:=by kernel_rfl
def Xi:bH:=aT aH aA [(164,1)] [(164,2,4),(164,2,9),(164,2,15),(164,0,0)] []
def aaV:Sc:=(.fork (.lit (.lit (.lit .fin))) (.fork (.lit (.lit .fin)) (.fork (.lit .fin) .fin)))
def lW (cs:List PV):az:=
 (.out (.ret (sI .i64 2) [.ob (aD.gr 160 true) (ab6 aa (ab6 AV.p cs))]))
def IN (h:Int) (n:Nat) (cs:List PV):az:=
 (.test (decide (h<0))
 (lW cs)
 (.test (decide (h>1073741824))
 (lW cs)
 (.test (decide ((↑n:Int)<1))
 (lW cs)
 (.test (decide ((↑n:Int)>1000))
 (lW cs)
 (.at (ak acb env 164 1 [.mp 1 0,sI .i64 0,.ms 0 0 n 4 none,sI .i64 (↑n:Int),sI .i64 0] ([.ob (aD.gr 160 true) (ab6 aa (ab6 AV.p cs)),.ac [sI .i64 h,.ms 0 0 n 4 none]]) 1 85))))))
theorem OL (h:Int) (n:Nat) (cs:List PV):aG acb env Xi 1000000 164 ([AV.agg [sI sb h,AV.ms 0 0 n 4 acg]]) ([dc cs]) aaV=IN h n cs:=by kernel_rfl
def Xj (h b:Int) (n:Nat) (i:Nat) (cs:List PV) (op base res:Int) (dead:Bool):bH:=gx ad4 aA [(164,1)] [(164,0,2),(164,8,3),(164,8,8),(164,9,3),(164,9,6),(164,9,19),(164,9,26),(164,9,31),(164,0,3)] [(164,7,1),(164,7,2)] (ad5 h b n i cs op base res dead)
def aaW:Sc:=(.fork (.fork (.fork (.fork (.yes (.lit (.lit (.lit (.lit .fin))))) (.fork (.lit (.lit (.lit .fin))) (.fork (.lit (.lit .fin)) (.fork (.lit .fin) .fin)))) (.lit (.yes (.lit (.lit (.lit (.lit .fin))))))) (.lit (.lit (.no (.fork (.lit (.lit (.lit .fin))) (.fork (.lit (.lit .fin)) (.fork (.lit .fin) .fin))))))) .fin)
def lY (h b:Int) (n:Nat) (i:Nat) (cs:List PV) (base res:Int):az:=
 (.test (decide (base<b)) (.out (.ret (sI .i64 2) [.ob (aD.gr 160 true) (ab6 aa (ab6 AV.p cs))])) (.test (decide (base>h)) (.out (.ret (sI .i64 2) [.ob (aD.gr 160 true) (ab6 aa (ab6 AV.p cs))])) (.test (decide (res<0)) (.out (.ret (sI .i64 2) [.ob (aD.gr 160 true) (ab6 aa (ab6 AV.p cs))])) (.test (decide (res>1)) (.out (.ret (sI .i64 2) [.ob (aD.gr 160 true) (ab6 aa (ab6 AV.p cs))])) (.need (sI .i64 (sb.wrap ((↑i:Int)+1))=sI sb (↑(i+1):Int)) (.at (ak acb env 164 1 [.mp 1 0,sI .i64 base,.ms 0 0 n 4 none,sI .i64 (↑n:Int),sI .i64 (↑(i+1):Int)] ([.ob (aD.gr 160 true) (ab6 aa (ab6 AV.p cs)),.ac [sI .i64 h,.ms 0 0 n 4 none]]) 1 85)))))))
def vK (h b:Int) (n:Nat) (i:Nat) (cs:List PV) (op base res:Int) (dead:Bool):az:=
 (.test (decide ((↑i:Int)<(↑n:Int)))
 (.must (aW (↑i:Int) n&&true&&true)
 (.must ((0+(aJ i)*4+4).ble (ab6 AV.p cs).length&&((bh (some (ace (afm sb) "int" 1 8 false 8 8 (some (.int .i64 0)) true #[]).desc) ((ab6 AV.p cs).getD (0+(aJ i)*4) .ah)).snd&&((bh (some (ace (afm sb) "int" 1 8 false 8 8 (some (.int .i64 0)) true #[]).desc) ((ab6 AV.p cs).getD (0+(aJ i)*4+1) .ah)).snd&&((bh (some (ace (afm sb) "int" 1 8 false 8 8 (some (.int .i64 0)) true #[]).desc) ((ab6 AV.p cs).getD (0+(aJ i)*4+1+1) .ah)).snd&&((bh (some (ace afn "bool" 1 1 false 1 1 (some (.bool false)) true #[]).desc) ((ab6 AV.p cs).getD (0+(aJ i)*4+1+1+1) .ah)).snd&&true))))&&true)
 (.need (AV.agg [(bh (aci (ace (afm sb) "int" 1 8 false 8 8 (aci (sT sb 0)) true #[]).desc) ((ab6 AV.p cs).getD (0+(aJ i)*4) AV.ah)).fst,(bh (aci (ace (afm sb) "int" 1 8 false 8 8 (aci (sT sb 0)) true #[]).desc) ((ab6 AV.p cs).getD (0+(aJ i)*4+1) AV.ah)).fst,(bh (aci (ace (afm sb) "int" 1 8 false 8 8 (aci (sT sb 0)) true #[]).desc) ((ab6 AV.p cs).getD (0+(aJ i)*4+1+1) AV.ah)).fst,(bh (aci (ace afn "bool" 1 1 false 1 1 (aci (afo false)) true #[]).desc) ((ab6 AV.p cs).getD (0+(aJ i)*4+1+1+1) AV.ah)).fst]=AV.agg [sI sb op,sI sb base,sI sb res,sB dead])
 (.test ((↑i:Int)==0)
 (.test (op==0)
 (.test (!base==0)
 (.must ((↑i:Int)==0)
 (.out (.ret (sI .i64 2) [.ob (aD.gr 160 true) (ab6 aa (ab6 AV.p cs))])))
 (lY h b n i cs base res))
 (.must ((↑i:Int)==0)
 (.out (.ret (sI .i64 2) [.ob (aD.gr 160 true) (ab6 aa (ab6 AV.p cs))]))))
 (.must (!((↑i:Int)==0))
 (.call ⟨178,[sI .i64 op],[],sB true,[]⟩
 (lY h b n i cs base res)))))))
 (.out (.ret (sI .i64 0) [.ob (aD.gr 160 true) (ab6 aa (ab6 AV.p cs))])))
theorem yL (h b:Int) (n:Nat) (i:Nat) (cs:List PV) (op base res:Int) (dead:Bool):grow acb env (Xj h b n i cs op base res dead) 1000000 true (ak acb env 164 1 ([AV.mp 1 0,sI sb b,AV.ms 0 0 n 4 acg,sI sb (↑n:Int),sI sb (↑i:Int)]) ([dc cs,aU.ac [sI sb h,AV.ms 0 0 n 4 acg]]) 1 85) aaW atEnd=vK h b n i cs op base res dead:=by kernel_rfl
theorem Bd {op:Int} (h:op=2∨op=3∨op=4∨op=5):an acb env 178 [sI .i64 op] [] (sB true) []:=by
 rcases h with rfl | rfl | rfl | rfl
 · exact bT aM fq (n:=1000) (by kernel_rfl)
 · exact bT aM fq (n:=1000) (by kernel_rfl)
 · exact bT aM fq (n:=1000) (by kernel_rfl)
 · exact bT aM fq (n:=1000) (by kernel_rfl)
@[simp] theorem Xk (l:List PV):ab6 zg (ab6 AV.p l)=l:=by
  rw[List.map_map]
  exact List.map_id' _
theorem nH : ∀l:List PV,qE (ab6 AV.p l)=true
 |[]=>rfl
 |_::l=>nH l
theorem GD (k:Nat) (hk:k≤1000) (cs:List PV) (hc:(k+1)*4≤cs.length) :
  an acb env 165 [.ms 0 0 (k+1) 4 none] [dc cs] (.ms 1 0 (k+1) 4 none) [dc cs,dc (cs.take ((k+1)*4))]:=by
 refine af aM (OK k cs) ?_
 have hl:gi=70368744177664:=rfl
 simp only[IM,az.ok,List.drop_zero,pw,aC,Xk,QP,←afj,nH,aeM,my,aeq,c8,aeN]
 exact⟨⟨hc,by omega,by omega⟩,trivial⟩
theorem ik:(sb==sb)=true:=rfl
set_option maxHeartbeats 1000000 in
theorem OM (h:Int) (fs:List Fr) (ex:List PV) (hn:fs.length≤1000) : ∀(r i:Nat) (b:Int),i+r=fs.length→1≤i→yK h b (fs.drop i) →
  cO acb env (ak acb env 164 1 [.mp 1 0,sI .i64 b,.ms 0 0 fs.length 4 none,sI .i64 fs.length,sI .i64 i] [dc (aO fs++ex),.ac [sI .i64 h,.ms 0 0 fs.length 4 none]] 1 85) (.ret (sI .i64 0) [dc (aO fs++ex)]):=by
 intro r
 induction r with
 |zero=>
  intro i b hi h1 hok
  refine aj aM (yL h b fs.length i (aO fs++ex) 0 0 0 true) ?_
  simp only[vK,lY,bF,az.ok]
  refine⟨fun q=> ?_,fun _=>by rw[aC]⟩
  simp only[decide_eq_true_eq] at q
  omega
 |succ r ih=>
  intro i b hi h1 hok
  have Aj:i<fs.length:=by omega
  have hg:fs[i]? = some fs[i]:=List.getElem?_eq_getElem Aj
  rw[List.drop_eq_getElem_cons Aj] at hok
  generalize fs[i]=f at *
  obtain⟨o1,o2,o3,o4,o5,o6⟩:=hok
  obtain⟨c0,c1,c2,c3⟩:=sv hg ex
  have ih:=ih (i+1) f.base (by omega) (by omega) o6
  have w1:sb.wrap ((i:Int)+1)=((i+1:Nat):Int):=by rw[aN (by omega) (by omega)];rfl
  have hlen:(aO fs++ex).length=fs.length*4+ex.length:=by rw[di,ir]
  refine aj aM (yL h b fs.length i (aO fs++ex) f.op f.base f.res f.dead) ?_
  simp only[vK,lY,bF,az.ok,acy,pw,c0,c1,c2,c3,bh,iA,isInt,isBool,av,bD,aC,w1,my,hlen]
  have nz:((i:Int)==0)=false:=by simp;omega
  have d1:decide (f.base<b)=false:=by simp;omega
  have d2:decide (f.base>h)=false:=by simp;omega
  have d3:decide (f.res<0)=false:=by simp;omega
  have d4:decide (f.res>1)=false:=by simp;omega
  have hb:decide ((i:Int)<(fs.length:Int))=true:=by simp only[decide_eq_true_eq];omega
  simp only[nz,d1,d2,d3,d4,hb,ik,aW,ph,pb,ae5,false_implies,true_implies,and_true,true_and,aeq,aeM,aeN,c8,decide_eq_true_eq]
  exact⟨by omega,by omega,Bd o1,ih⟩
set_option maxHeartbeats 1000000 in
theorem EI (h:Int) (fs:List Fr) (ex:List PV) (hok:fV h fs) :
  an acb env 164 [.agg [sI .i64 h,.ms 0 0 fs.length 4 none]] [dc (aO fs++ex)] (sI .i64 0) [dc (aO fs++ex)]:=by
 cases fs with
 |nil=>exact hok.elim
 |cons f r=>
  obtain⟨o1,o2,o3,o4,o5,o6,o7,o8⟩:=hok
  have loop:=OM h (f::r) ex (by simpa using o8) r.length 1 f.base (by simp;omega) (by omega) (by rw[o2];exact o5)
  have hg:(f::r)[0]? = some f:=rfl
  obtain⟨c0,c1,c2,c3⟩:=sv hg ex
  have hlen:(aO (f::r)++ex).length=(f::r).length*4+ex.length:=by rw[di,ir]
  have Ls:(f::r).length=r.length+1:=rfl
  refine af aM (OL h (f::r).length (aO (f::r)++ex)) ?_
  simp only[IN,lW,az.ok,aC]
  have e1:decide (h<0)=false:=by simp;omega
  have e2:decide (h>1073741824)=false:=by simp;omega
  have e3:decide (((f::r).length:Int)<1)=false:=by simp;omega
  have e4:decide (((f::r).length:Int)>1000)=false:=by simp;omega
  simp only[e1,e2,e3,e4]
  refine⟨(fun q=>by cases q),fun _=>⟨(fun q=>by cases q),fun _=>⟨(fun q=>by cases q),fun _=>⟨(fun q=>by cases q),fun _=> ?_⟩⟩⟩⟩
  have tr:=yL h 0 (f::r).length 0 (aO (f::r)++ex) f.op f.base f.res f.dead
  refine aj aM tr ?_
  simp only[vK,lY,bF,az.ok,acy,pw,afl,bh,iA,isInt,isBool,av,bD,aC,my,hlen]
  simp only[afl,pw] at c0 c1 c2 c3
  have d1:decide (f.base<0)=false:=by simp;omega
  have d2:decide (f.base>h)=false:=by simp;omega
  have d3:decide (f.res<0)=false:=by simp;omega
  have d4:decide (f.res>1)=false:=by simp;omega
  have d5:(!f.base==0)=false:=by simp[o2]
  have d6:(f.op==0)=true:=by simp[o1]
  have d7:decide (((0:Nat):Int)<((f::r).length:Int))=true:=by simp only[decide_eq_true_eq];omega
  have d8:(((0:Nat):Int)==0)=true:=rfl
  simp only[c0,c1,c2,c3,d1,d2,d3,d4,d5,d6,d7,d8,ik,aW,yi,pb,ae5,false_implies,true_implies,and_true,true_and,aeq,aeM,aeN,c8,decide_eq_true_eq]
  exact⟨by omega,by omega,rfl,loop⟩
end Go.Proofs.YtdmmllcjgjmbbaaGreatDoor.N
end
section
set_option linter.unusedSimpArgs false
namespace Go.Proofs.YtdmmllcjgjmbbaaGreatDoor.N
open Go Go.Am
def stC (cl:List PV) (k:Nat) (f:FuncId) (m:Mem):Option (AV×Mem):=cond (ae f 164) (some (sI .i64 0,m)) (cond (ae f 165) (some (.ms 1 0 (k+1) 4 none,m++[dc cl])) none)
def KS (k:Nat) (base res:Int) (dead b:Bool):List (Nat×Nat×AV):=[(140,15,sI .i64 base),(140,37,sI .i64 base),(140,22,sB dead),(140,18,sB b),(139,11,sI .i64 res),(139,15,sI .i64 base),(139,41,sI .i64 k)]
def ON (_h:Int) (k:Nat) (_cs _cl:List PV) (_op base res:Int) (dead:Bool) (_n:Int):Env:=uW (KS k base res dead false)
def aaX (_h:Int) (k:Nat) (_cs _cl:List PV) (_op base res:Int) (dead:Bool) (_n:Int):Env:=uW (KS k base res dead true)
def Xl (_h:Int) (k:Nat) (_cs cl:List PV) (_op _base _res:Int) (_dead:Bool) (_n:Int) (f:FuncId) (_:List AV) (m:Mem):Option (AV×Mem):=stC cl k f m
def Xm (_h:Int) (k:Nat) (_cs _cl:List PV) (_op base _res:Int) (_dead:Bool) (_n:Int):FuncId→Nat→Nat→Option (AV→AV):=cM [(138,5,6,sI .i64 k),(171,2,5,sI .i64 base)]
def ad6 (_h:Int) (k:Nat) (_cs cl:List PV) (_op _base _res:Int) (_dead:Bool) (_n:Int) (f:FuncId) (_:List AV) (m:Mem):Option (AV×Mem):=cond (ae f 164) (some (sI .i64 0,m)) (cond (ae f 165) (some (.ms 1 0 (k+1) 4 none,m++[dc cl])) none)
def aaY (h:Int) (k:Nat) (_cs cl:List PV) (_op _base _res:Int) (_dead:Bool) (_n:Int) (f:FuncId) (_:List AV) (m:Mem):Option (AV×Mem):=cond (ae f 178) (some (sB true,m)) (cond (ae f 138) (some (.au [.agg [sI .i64 h,.ms 3 0 (k+2) 4 none],sI .i64 0],m++[dc cl])) none)
def seE (_h:Int) (_k:Nat) (_cs _cl:List PV) (_op _base _res:Int) (_dead:Bool) (_n:Int):Env:=uW [(173,13,sB true),(173,17,sB true)]
def Sv (h:Int) (k:Nat) (cs:List PV) (cl:List PV) (op base res:Int) (dead:Bool) (n:Int):bH:=gx (Xl h k cs cl op base res dead n) aA [] [(138,2,3)] [(138,5,7),(140,0,0),(140,0,1)] (Xm h k cs cl op base res dead n)
def Xn:Sc:= .fin
def EJ (h:Int) (k:Nat) (cs:List PV) (cl:List PV) (_op base _res:Int) (_dead:Bool) (n:Int):az:=
 (.test (!decide (n≥0))
 (.out (.ret (.au [.agg [sI .i64 0,xQ],sI .i64 2]) [.ob (aD.gr 160 true) (ab6 aa (ab6 aa (ab6 aa (ab6 aa (ab6 AV.p cs)))))]))
 (.call ⟨164,[.agg [sI .i64 h,.ms 0 0 (k+1) 4 none]],[.ob (aD.gr 160 true) (ab6 aa (ab6 aa (ab6 AV.p cs)))],sI .i64 0,[.ob (aD.gr 160 true) (ab6 aa (ab6 aa (ab6 AV.p cs)))]⟩
 (.call ⟨165,[.ms 0 0 (k+1) 4 none],[.ob (aD.gr 160 true) (ab6 aa (ab6 aa (ab6 aa (ab6 aa (ab6 AV.p cs)))))],.ms 1 0 (k+1) 4 none,[.ob (aD.gr 160 true) (ab6 aa (ab6 aa (ab6 aa (ab6 aa (ab6 AV.p cs))))),.ob (aD.gr 160 true) (ab6 AV.p cl)]⟩
 (.need (sI .i64 (sb.wrap ((↑(k+1):Int)-1))=sI sb (↑k:Int))
 (.must (aW (↑k:Int) (k+1)&&true&&true)
 (.must ((0+(aJ k)*4+1+1).ble (ab6 aa (ab6 aa (ab6 aa (ab6 AV.p cl)))).length&&(bh (acb.underlying 3) ((ab6 aa (ab6 aa (ab6 aa (ab6 AV.p cl)))).getD (0+(aJ k)*4+1) .ah)).snd&&true&&ej (bh (acb.underlying 3) ((ab6 aa (ab6 aa (ab6 aa (ab6 AV.p cl)))).getD (0+(aJ k)*4+1) .ah)).fst (sI .i64 base)&&(ej (.p (.sc (.bool (decide (n>sb.wrap (h-base)))))) (sB false)&&true)&&true)
 (.must ((0+(aJ k)*4+1+1).ble (ab6 aa (ab6 aa (ab6 aa (ab6 AV.p cl)))).length&&(bh (acb.underlying 3) ((ab6 aa (ab6 aa (ab6 aa (ab6 AV.p cl)))).getD (0+(aJ k)*4+1) .ah)).snd&&true&&ej (bh (acb.underlying 3) ((ab6 aa (ab6 aa (ab6 aa (ab6 AV.p cl)))).getD (0+(aJ k)*4+1) .ah)).fst (sI .i64 base)&&true&&true)
 (.must true
 (.out (.ret (.au [.agg [sI .i64 (sb.wrap (h-bif true then aco n (sb.wrap (h-base)) else acx n (sb.wrap (h-base)))),.ms 1 0 (k+1) 4 none],sI .i64 0]) [.ob (aD.gr 160 true) (ab6 aa (ab6 aa (ab6 aa (ab6 aa (ab6 aa (ab6 aa (ab6 aa (ab6 aa (ab6 AV.p cs))))))))),.ob (aD.gr 160 true) (ab6 aa (ab6 aa (ab6 aa (ab6 aa (ab6 aa (ab6 aa (ab6 aa (ab6 aa (ab6 aa (ab6 aa (ab6 AV.p cl)))))))))))]))))))))))
theorem Ki (h:Int) (k:Nat) (cs:List PV) (cl:List PV) (op base res:Int) (dead:Bool) (n:Int):aG acb (ON h k cs cl op base res dead n) (Sv h k cs cl op base res dead n) 1000000 159 ([AV.agg [sI sb h,AV.ms 0 0 (k+1) 4 acg],sI sb n]) ([dc cs]) Xn=EJ h k cs cl op base res dead n:=by kernel_rfl
def Sw (h:Int) (k:Nat) (cs:List PV) (cl:List PV) (op base res:Int) (dead:Bool) (n:Int):bH:=gx (Xl h k cs cl op base res dead n) aA [] [(138,2,3),(140,0,0)] [(138,5,7),(140,0,0),(140,0,1)] (Xm h k cs cl op base res dead n)
def Xo:Sc:= .fin
def yM (h:Int) (k:Nat) (cs:List PV) (cl:List PV) (_op base _res:Int) (dead:Bool) (n:Int):az:=
 (.test (!decide (n≥0))
 (.out (.ret (.au [.agg [sI .i64 0,xQ],sI .i64 2]) [.ob (aD.gr 160 true) (ab6 aa (ab6 aa (ab6 aa (ab6 aa (ab6 AV.p cs)))))]))
 (.call ⟨164,[.agg [sI .i64 h,.ms 0 0 (k+1) 4 none]],[.ob (aD.gr 160 true) (ab6 aa (ab6 aa (ab6 AV.p cs)))],sI .i64 0,[.ob (aD.gr 160 true) (ab6 aa (ab6 aa (ab6 AV.p cs)))]⟩
 (.call ⟨165,[.ms 0 0 (k+1) 4 none],[.ob (aD.gr 160 true) (ab6 aa (ab6 aa (ab6 aa (ab6 aa (ab6 AV.p cs)))))],.ms 1 0 (k+1) 4 none,[.ob (aD.gr 160 true) (ab6 aa (ab6 aa (ab6 aa (ab6 aa (ab6 AV.p cs))))),.ob (aD.gr 160 true) (ab6 AV.p cl)]⟩
 (.need (sI .i64 (sb.wrap ((↑(k+1):Int)-1))=sI sb (↑k:Int))
 (.must (aW (↑k:Int) (k+1)&&true&&true)
 (.must ((0+(aJ k)*4+1+1).ble (ab6 aa (ab6 aa (ab6 aa (ab6 AV.p cl)))).length&&(bh (acb.underlying 3) ((ab6 aa (ab6 aa (ab6 aa (ab6 AV.p cl)))).getD (0+(aJ k)*4+1) .ah)).snd&&true&&ej (bh (acb.underlying 3) ((ab6 aa (ab6 aa (ab6 aa (ab6 AV.p cl)))).getD (0+(aJ k)*4+1) .ah)).fst (sI .i64 base)&&(ej (.p (.sc (.bool (decide (n>sb.wrap (h-base)))))) (sB true)&&((0+(aJ k)*4+3+1).ble (ab6 aa (ab6 aa (ab6 aa (ab6 AV.p cl)))).length&&(bh (acb.underlying 4) ((ab6 aa (ab6 aa (ab6 aa (ab6 AV.p cl)))).getD (0+(aJ k)*4+3) .ah)).snd&&true&&ej (bh (acb.underlying 4) ((ab6 aa (ab6 aa (ab6 aa (ab6 AV.p cl)))).getD (0+(aJ k)*4+3) .ah)).fst (.p (.sc (.bool dead)))&&true))&&true)
 (.test (!dead)
 (.must true
 (.out (.ret (.au [.agg [sI .i64 0,xQ],sI .i64 200]) [.ob (aD.gr 160 true) (ab6 aa (ab6 aa (ab6 aa (ab6 aa (ab6 aa (ab6 aa (ab6 aa (ab6 aa (ab6 AV.p cs)))))))))])))
 (.must ((0+(aJ k)*4+1+1).ble (ab6 aa (ab6 aa (ab6 aa (ab6 AV.p cl)))).length&&(bh (acb.underlying 3) ((ab6 aa (ab6 aa (ab6 aa (ab6 AV.p cl)))).getD (0+(aJ k)*4+1) .ah)).snd&&true&&ej (bh (acb.underlying 3) ((ab6 aa (ab6 aa (ab6 aa (ab6 AV.p cl)))).getD (0+(aJ k)*4+1) .ah)).fst (sI .i64 base)&&true&&true)
 (.must true
 (.out (.ret (.au [.agg [sI .i64 (sb.wrap (h-bif true then aco n (sb.wrap (h-base)) else acx n (sb.wrap (h-base)))),.ms 1 0 (k+1) 4 none],sI .i64 0]) [.ob (aD.gr 160 true) (ab6 aa (ab6 aa (ab6 aa (ab6 aa (ab6 aa (ab6 aa (ab6 aa (ab6 aa (ab6 AV.p cs))))))))),.ob (aD.gr 160 true) (ab6 aa (ab6 aa (ab6 aa (ab6 aa (ab6 aa (ab6 aa (ab6 aa (ab6 aa (ab6 aa (ab6 aa (ab6 AV.p cl)))))))))))])))))))))))
theorem Be (h:Int) (k:Nat) (cs:List PV) (cl:List PV) (op base res:Int) (dead:Bool) (n:Int):aG acb (aaX h k cs cl op base res dead n) (Sw h k cs cl op base res dead n) 1000000 159 ([AV.agg [sI sb h,AV.ms 0 0 (k+1) 4 acg],sI sb n]) ([dc cs]) Xo=yM h k cs cl op base res dead n:=by kernel_rfl
def Sx (h:Int) (k:Nat) (cs:List PV) (cl:List PV) (op base res:Int) (dead:Bool) (n:Int):bH:=gx (Xl h k cs cl op base res dead n) aA [] [(138,2,3),(176,0,0)] [(138,5,7)] (Xm h k cs cl op base res dead n)
def Xp:Sc:= .fin
def EK (h:Int) (k:Nat) (cs:List PV) (cl:List PV) (_op _base _res:Int) (_dead:Bool) (n:Int):az:=
 (.test (!decide (n≥0))
 (.out (.ret (.au [.agg [sI .i64 0,xQ],sI .i64 2]) [.ob (aD.gr 160 true) (ab6 aa (ab6 aa (ab6 aa (ab6 aa (ab6 AV.p cs)))))]))
 (.call ⟨164,[.agg [sI .i64 h,.ms 0 0 (k+1) 4 none]],[.ob (aD.gr 160 true) (ab6 aa (ab6 aa (ab6 AV.p cs)))],sI .i64 0,[.ob (aD.gr 160 true) (ab6 aa (ab6 aa (ab6 AV.p cs)))]⟩
 (.call ⟨165,[.ms 0 0 (k+1) 4 none],[.ob (aD.gr 160 true) (ab6 aa (ab6 aa (ab6 aa (ab6 aa (ab6 AV.p cs)))))],.ms 1 0 (k+1) 4 none,[.ob (aD.gr 160 true) (ab6 aa (ab6 aa (ab6 aa (ab6 aa (ab6 AV.p cs))))),.ob (aD.gr 160 true) (ab6 AV.p cl)]⟩
 (.need (sI .i64 (sb.wrap ((↑(k+1):Int)-1))=sI sb (↑k:Int))
 (.must (aW (↑k:Int) (k+1)&&true&&true)
 (.test (decide (n>sb.wrap (1073741824-h)))
 (.out (.ret (.au [.agg [sI .i64 0,xQ],sI .i64 8]) [.ob (aD.gr 160 true) (ab6 aa (ab6 aa (ab6 aa (ab6 aa (ab6 aa (ab6 aa (ab6 aa (ab6 aa (ab6 AV.p cs)))))))))]))
 (.out (.ret (.au [.agg [sI .i64 (sb.wrap (h+n)),.ms 1 0 (k+1) 4 none],sI .i64 0]) [.ob (aD.gr 160 true) (ab6 aa (ab6 aa (ab6 aa (ab6 aa (ab6 aa (ab6 aa (ab6 aa (ab6 aa (ab6 AV.p cs))))))))),.ob (aD.gr 160 true) (ab6 aa (ab6 aa (ab6 aa (ab6 aa (ab6 aa (ab6 aa (ab6 aa (ab6 aa (ab6 aa (ab6 aa (ab6 AV.p cl)))))))))))]))))))))
theorem Kj (h:Int) (k:Nat) (cs:List PV) (cl:List PV) (op base res:Int) (dead:Bool) (n:Int):aG acb (ON h k cs cl op base res dead n) (Sx h k cs cl op base res dead n) 1000000 161 ([AV.agg [sI sb h,AV.ms 0 0 (k+1) 4 acg],sI sb n]) ([dc cs]) Xp=EK h k cs cl op base res dead n:=by kernel_rfl
def Sy (h:Int) (k:Nat) (cs:List PV) (cl:List PV) (op base res:Int) (dead:Bool) (n:Int):bH:=gx (Xl h k cs cl op base res dead n) aA [] [] [(138,5,7),(171,2,5),(171,2,11)] (Xm h k cs cl op base res dead n)
def Xq:Sc:= .fin
def EL (h:Int) (k:Nat) (cs:List PV) (cl:List PV) (_op base _res:Int) (_dead:Bool) (_n:Int):az:=
 (.call ⟨164,[.agg [sI .i64 h,.ms 0 0 (k+1) 4 none]],[.ob (aD.gr 160 true) (ab6 aa (ab6 aa (ab6 AV.p cs)))],sI .i64 0,[.ob (aD.gr 160 true) (ab6 aa (ab6 aa (ab6 AV.p cs)))]⟩
 (.call ⟨165,[.ms 0 0 (k+1) 4 none],[.ob (aD.gr 160 true) (ab6 aa (ab6 aa (ab6 aa (ab6 aa (ab6 AV.p cs)))))],.ms 1 0 (k+1) 4 none,[.ob (aD.gr 160 true) (ab6 aa (ab6 aa (ab6 aa (ab6 aa (ab6 AV.p cs))))),.ob (aD.gr 160 true) (ab6 AV.p cl)]⟩
 (.need (sI .i64 (sb.wrap ((↑(k+1):Int)-1))=sI sb (↑k:Int))
 (.must (aW (↑k:Int) (k+1)&&true&&true)
 (.must ((0+(aJ k)*4+1+1).ble (ab6 aa (ab6 aa (ab6 AV.p cl))).length&&(bh (acb.underlying 3) ((ab6 aa (ab6 aa (ab6 AV.p cl))).getD (0+(aJ k)*4+1) .ah)).snd&&true)
 (.need (((bh (acb.underlying 3) ((ab6 aa (ab6 aa (ab6 AV.p cl))).getD (0+(aJ k)*4+1) AV.ah)).fst,(0+(aJ k)*4+1+1).ble (ab6 aa (ab6 aa (ab6 AV.p cl))).length&&(bh (acb.underlying 3) ((ab6 aa (ab6 aa (ab6 AV.p cl))).getD (0+(aJ k)*4+1) AV.ah)).snd).fst=sI sb base)
 (.must ((0+(aJ k)*4+3+1).ble (ab6 aa (ab6 aa (ab6 AV.p cl))).length&&true&&true&&true)
 (.out (.ret (.au [.agg [sI .i64 base,.ms 1 0 (k+1) 4 none],sI .i64 0]) [.ob (aD.gr 160 true) (ab6 aa (ab6 aa (ab6 aa (ab6 aa (ab6 aa (ab6 aa (ab6 aa (ab6 aa (ab6 AV.p cs))))))))),.ob (aD.gr 160 true) (ab6 aa (ab6 aa (ab6 aa (ab6 aa (ab6 aa (cW (ab6 aa (ab6 aa (ab6 AV.p cl))) (0+(aJ k)*4+3) [sB true]))))))])))))))))
theorem Kk (h:Int) (k:Nat) (cs:List PV) (cl:List PV) (op base res:Int) (dead:Bool) (n:Int):aG acb (ON h k cs cl op base res dead n) (Sy h k cs cl op base res dead n) 1000000 155 ([AV.agg [sI sb h,AV.ms 0 0 (k+1) 4 acg]]) ([dc cs]) Xq=EL h k cs cl op base res dead n:=by kernel_rfl
def Sz (h:Int) (k:Nat) (cs:List PV) (cl:List PV) (op base res:Int) (dead:Bool) (n:Int):bH:=gx (ad6 h k cs cl op base res dead n) aA [] [(183,0,0)] [(138,5,7),(183,0,1)] (Xm h k cs cl op base res dead n)
def Xr:Sc:= .fin
def EM (h:Int) (k:Nat) (cs:List PV) (cl:List PV) (op _base _res:Int) (_dead:Bool) (n:Int):az:=
 (.call ⟨164,[.agg [sI .i64 h,.ms 0 0 (k+1) 4 none]],[.ob (aD.gr 160 true) (ab6 aa (ab6 AV.p cs))],sI .i64 0,[.ob (aD.gr 160 true) (ab6 aa (ab6 AV.p cs))]⟩
 (.call ⟨165,[.ms 0 0 (k+1) 4 none],[.ob (aD.gr 160 true) (ab6 aa (ab6 aa (ab6 aa (ab6 AV.p cs))))],.ms 1 0 (k+1) 4 none,[.ob (aD.gr 160 true) (ab6 aa (ab6 aa (ab6 aa (ab6 AV.p cs)))),.ob (aD.gr 160 true) (ab6 AV.p cl)]⟩
 (.need (sI .i64 (sb.wrap ((↑(k+1):Int)-1))=sI sb (↑k:Int))
 (.must (aW (↑k:Int) (k+1)&&true&&true)
 (.test (decide ((↑(k+1):Int)≥1000))
 (.must true
 (.out (.ret (.au [.agg [sI .i64 0,xQ],sI .i64 8]) [.ob (aD.gr 160 true) (ab6 aa (ab6 aa (ab6 aa (ab6 aa (ab6 aa (ab6 AV.p cs)))))),.pc [sP op],.pc [sP n]])))
 (.must (((k+1+1)*32).ble gi&&(k+1+1).ble gi&&(((k+1)*4).ble (ab6 aa (ab6 aa (ab6 AV.p cl))).length&&true)&&true&&true&&true)
 (.must true
 (.out (.ret (.au [.agg [sI .i64 h,.ms 3 0 (k+1+1) 4 none],sI .i64 0]) [.ob (aD.gr 160 true) (ab6 aa (ab6 aa (ab6 aa (ab6 aa (ab6 aa (ab6 AV.p cs)))))),.pc [sP op],.pc [sP n],.ob (aD.gr 160 true) (ab6 aa (ab6 aa (ab6 aa (ab8 ((k+1)*4) (ab6 aa (ab6 aa (ab6 AV.p cl)))++[sI .i64 op,sI .i64 h,sI .i64 n,sB false]))))])))))))))
theorem Kl (h:Int) (k:Nat) (cs:List PV) (cl:List PV) (op base res:Int) (dead:Bool) (n:Int):aG acb (ON h k cs cl op base res dead n) (Sz h k cs cl op base res dead n) 1000000 138 ([AV.agg [sI sb h,AV.ms 0 0 (k+1) 4 acg],sB true,AV.fn (Fn.func 183) [] [AV.mp 1 0,AV.mp 2 0]]) ([dc cs,aU.pc [PV.sc (sT sb op)],aU.pc [PV.sc (sT sb n)]]) Xr=EM h k cs cl op base res dead n:=by kernel_rfl
def SA (h:Int) (k:Nat) (cs:List PV) (cl:List PV) (op base res:Int) (dead:Bool) (n:Int):bH:=aT (Xl h k cs cl op base res dead n) (aaY h k cs cl op base res dead n) [] [] [(173,0,0)]
def Xs:Sc:= .fin
def EN (h:Int) (k:Nat) (cs:List PV) (cl:List PV) (op _base _res:Int) (_dead:Bool) (n:Int):az:=
 (.call ⟨178,[sI .i64 op],[],sB true,[]⟩
 (.call ⟨138,[.agg [sI .i64 h,.ms 0 0 (k+1) 4 none],sB true,.fn (Fn.func 183) [] [.mp 1 0,.mp 2 0]],[.ob (aD.gr 160 true) (ab6 aa (ab6 AV.p cs)),.pc [sP op],.pc [sP n]],.au [.agg [sI .i64 h,.ms 3 0 (k+2) 4 none],sI .i64 0],[.ob (aD.gr 160 true) (ab6 aa (ab6 AV.p cs)),.pc [sP op],.pc [sP n],.ob (aD.gr 160 true) (ab6 AV.p cl)]⟩
 (.must (ej (.p (.sc (.bool (decide (n≥0))))) (sB true)&&(ej (.p (.sc (.bool (decide (n≤1))))) (sB true)&&true)&&true)
 (.must true
 (.out (.ret (.au [.agg [sI .i64 h,.ms 1 0 (k+2) 4 none],sI .i64 0]) [.ob (aD.gr 160 true) (ab6 aa (ab6 aa (ab6 aa (ab6 AV.p cs)))),.ob (aD.gr 160 true) (ab6 aa (ab6 aa (ab6 AV.p cl)))]))))))
theorem Km (h:Int) (k:Nat) (cs:List PV) (cl:List PV) (op base res:Int) (dead:Bool) (n:Int):aG acb (seE h k cs cl op base res dead n) (SA h k cs cl op base res dead n) 1000000 173 ([AV.agg [sI sb h,AV.ms 0 0 (k+1) 4 acg],sI sb op,sI sb n]) ([dc cs]) Xs=EN h k cs cl op base res dead n:=by kernel_rfl
def SB (h:Int) (k:Nat) (cs:List PV) (cl:List PV) (op base res:Int) (dead:Bool) (n:Int):bH:=gx (Xl h k cs cl op base res dead n) aA [] [(139,0,1)] [(138,5,7),(139,0,0),(140,0,0),(140,0,1),(139,0,2)] (Xm h k cs cl op base res dead n)
def Xt:Sc:= .fin
def yN (h:Int) (k:Nat) (cs:List PV) (cl:List PV) (_op base res:Int) (_dead:Bool) (_n:Int):az:=
 (.call ⟨164,[.agg [sI .i64 h,.ms 0 0 (k+1) 4 none]],[.ob (aD.gr 160 true) (ab6 aa (ab6 aa (ab6 AV.p cs)))],sI .i64 0,[.ob (aD.gr 160 true) (ab6 aa (ab6 aa (ab6 AV.p cs)))]⟩
 (.call ⟨165,[.ms 0 0 (k+1) 4 none],[.ob (aD.gr 160 true) (ab6 aa (ab6 aa (ab6 aa (ab6 aa (ab6 AV.p cs)))))],.ms 1 0 (k+1) 4 none,[.ob (aD.gr 160 true) (ab6 aa (ab6 aa (ab6 aa (ab6 aa (ab6 AV.p cs))))),.ob (aD.gr 160 true) (ab6 AV.p cl)]⟩
 (.need (sI .i64 (sb.wrap ((↑(k+1):Int)-1))=sI sb (↑k:Int))
 (.must (aW (↑k:Int) (k+1)&&true&&true)
 (.must ((0+(aJ k)*4+2+1).ble (ab6 aa (ab6 aa (ab6 AV.p cl))).length&&(bh (acb.underlying 3) ((ab6 aa (ab6 aa (ab6 AV.p cl))).getD (0+(aJ k)*4+2) .ah)).snd&&true&&ej (bh (acb.underlying 3) ((ab6 aa (ab6 aa (ab6 AV.p cl))).getD (0+(aJ k)*4+2) .ah)).fst (sI .i64 res)&&((0+(aJ k)*4+1+1).ble (ab6 aa (ab6 aa (ab6 AV.p cl))).length&&(bh (acb.underlying 3) ((ab6 aa (ab6 aa (ab6 AV.p cl))).getD (0+(aJ k)*4+1) .ah)).snd&&true&&ej (bh (acb.underlying 3) ((ab6 aa (ab6 aa (ab6 AV.p cl))).getD (0+(aJ k)*4+1) .ah)).fst (sI .i64 base)&&true)&&true)
 (.must ((0+(aJ k)*4+1+1).ble (ab6 aa (ab6 aa (ab6 aa (ab6 AV.p cl)))).length&&(bh (acb.underlying 3) ((ab6 aa (ab6 aa (ab6 aa (ab6 AV.p cl)))).getD (0+(aJ k)*4+1) .ah)).snd&&true&&ej (bh (acb.underlying 3) ((ab6 aa (ab6 aa (ab6 aa (ab6 AV.p cl)))).getD (0+(aJ k)*4+1) .ah)).fst (sI .i64 base)&&(ej (.p (.sc (.bool (decide (res>sb.wrap (h-base)))))) (sB false)&&true)&&true)
 (.must ((0+(aJ k)*4+1+1).ble (ab6 aa (ab6 aa (ab6 aa (ab6 AV.p cl)))).length&&(bh (acb.underlying 3) ((ab6 aa (ab6 aa (ab6 aa (ab6 AV.p cl)))).getD (0+(aJ k)*4+1) .ah)).snd&&true&&ej (bh (acb.underlying 3) ((ab6 aa (ab6 aa (ab6 aa (ab6 AV.p cl)))).getD (0+(aJ k)*4+1) .ah)).fst (sI .i64 base)&&true&&true)
 (.must true
 (.test (decide (sb.wrap (h-bif true then aco res (sb.wrap (h-base)) else acx res (sb.wrap (h-base)))>base))
 (.must true
 (.out (.ret (.au [.agg [sI .i64 0,xQ],sI .i64 201]) [.ob (aD.gr 160 true) (ab6 aa (ab6 aa (ab6 aa (ab6 aa (ab6 aa (ab6 aa (ab6 aa (ab6 aa (ab6 AV.p cs)))))))))])))
 (.must (ej (sI .i64 (sb.wrap ((↑(k+1):Int)-1))) (sI .i64 (↑k:Int))&&((aJ k).ble (k+1)&&true&&true&&true&&true)&&true)
 (.must true
 (.out (.ret (.au [.agg [sI .i64 (sb.wrap (sb.wrap (h-bif true then aco res (sb.wrap (h-base)) else acx res (sb.wrap (h-base)))+res)),.ms 1 0 (aJ k-0) 4 none],sI .i64 0]) [.ob (aD.gr 160 true) (ab6 aa (ab6 aa (ab6 aa (ab6 aa (ab6 aa (ab6 aa (ab6 aa (ab6 aa (ab6 AV.p cs))))))))),.ob (aD.gr 160 true) (ab6 aa (ab6 aa (ab6 aa (ab6 aa (ab6 aa (ab6 aa (ab6 aa (ab6 aa (ab6 aa (ab6 aa (ab6 AV.p cl)))))))))))])))))))))))))
theorem Bf (h:Int) (k:Nat) (cs:List PV) (cl:List PV) (op base res:Int) (dead:Bool) (n:Int):aG acb (ON h k cs cl op base res dead n) (SB h k cs cl op base res dead n) 1000000 119 ([AV.agg [sI sb h,AV.ms 0 0 (k+1) 4 acg]]) ([dc cs]) Xt=yN h k cs cl op base res dead n:=by kernel_rfl
def SC (h:Int) (k:Nat) (cs:List PV) (cl:List PV) (op base res:Int) (dead:Bool) (n:Int):bH:=gx (Xl h k cs cl op base res dead n) aA [] [(140,0,0),(139,0,1)] [(138,5,7),(139,0,0),(140,0,0),(140,0,1),(139,0,2)] (Xm h k cs cl op base res dead n)
def Xu:Sc:= .fin
def yO (h:Int) (k:Nat) (cs:List PV) (cl:List PV) (_op base res:Int) (dead:Bool) (_n:Int):az:=
 (.call ⟨164,[.agg [sI .i64 h,.ms 0 0 (k+1) 4 none]],[.ob (aD.gr 160 true) (ab6 aa (ab6 aa (ab6 AV.p cs)))],sI .i64 0,[.ob (aD.gr 160 true) (ab6 aa (ab6 aa (ab6 AV.p cs)))]⟩
 (.call ⟨165,[.ms 0 0 (k+1) 4 none],[.ob (aD.gr 160 true) (ab6 aa (ab6 aa (ab6 aa (ab6 aa (ab6 AV.p cs)))))],.ms 1 0 (k+1) 4 none,[.ob (aD.gr 160 true) (ab6 aa (ab6 aa (ab6 aa (ab6 aa (ab6 AV.p cs))))),.ob (aD.gr 160 true) (ab6 AV.p cl)]⟩
 (.need (sI .i64 (sb.wrap ((↑(k+1):Int)-1))=sI sb (↑k:Int))
 (.must (aW (↑k:Int) (k+1)&&true&&true)
 (.must ((0+(aJ k)*4+2+1).ble (ab6 aa (ab6 aa (ab6 AV.p cl))).length&&(bh (acb.underlying 3) ((ab6 aa (ab6 aa (ab6 AV.p cl))).getD (0+(aJ k)*4+2) .ah)).snd&&true&&ej (bh (acb.underlying 3) ((ab6 aa (ab6 aa (ab6 AV.p cl))).getD (0+(aJ k)*4+2) .ah)).fst (sI .i64 res)&&((0+(aJ k)*4+1+1).ble (ab6 aa (ab6 aa (ab6 AV.p cl))).length&&(bh (acb.underlying 3) ((ab6 aa (ab6 aa (ab6 AV.p cl))).getD (0+(aJ k)*4+1) .ah)).snd&&true&&ej (bh (acb.underlying 3) ((ab6 aa (ab6 aa (ab6 AV.p cl))).getD (0+(aJ k)*4+1) .ah)).fst (sI .i64 base)&&true)&&true)
 (.must ((0+(aJ k)*4+1+1).ble (ab6 aa (ab6 aa (ab6 aa (ab6 AV.p cl)))).length&&(bh (acb.underlying 3) ((ab6 aa (ab6 aa (ab6 aa (ab6 AV.p cl)))).getD (0+(aJ k)*4+1) .ah)).snd&&true&&ej (bh (acb.underlying 3) ((ab6 aa (ab6 aa (ab6 aa (ab6 AV.p cl)))).getD (0+(aJ k)*4+1) .ah)).fst (sI .i64 base)&&(ej (.p (.sc (.bool (decide (res>sb.wrap (h-base)))))) (sB true)&&((0+(aJ k)*4+3+1).ble (ab6 aa (ab6 aa (ab6 aa (ab6 AV.p cl)))).length&&(bh (acb.underlying 4) ((ab6 aa (ab6 aa (ab6 aa (ab6 AV.p cl)))).getD (0+(aJ k)*4+3) .ah)).snd&&true&&ej (bh (acb.underlying 4) ((ab6 aa (ab6 aa (ab6 aa (ab6 AV.p cl)))).getD (0+(aJ k)*4+3) .ah)).fst (.p (.sc (.bool dead)))&&true))&&true)
 (.test (!dead)
 (.must true
 (.out (.ret (.au [.agg [sI .i64 0,xQ],sI .i64 200]) [.ob (aD.gr 160 true) (ab6 aa (ab6 aa (ab6 aa (ab6 aa (ab6 aa (ab6 aa (ab6 aa (ab6 aa (ab6 AV.p cs)))))))))])))
 (.must ((0+(aJ k)*4+1+1).ble (ab6 aa (ab6 aa (ab6 aa (ab6 AV.p cl)))).length&&(bh (acb.underlying 3) ((ab6 aa (ab6 aa (ab6 aa (ab6 AV.p cl)))).getD (0+(aJ k)*4+1) .ah)).snd&&true&&ej (bh (acb.underlying 3) ((ab6 aa (ab6 aa (ab6 aa (ab6 AV.p cl)))).getD (0+(aJ k)*4+1) .ah)).fst (sI .i64 base)&&true&&true)
 (.must true
 (.test (decide (sb.wrap (h-bif true then aco res (sb.wrap (h-base)) else acx res (sb.wrap (h-base)))>base))
 (.must true
 (.out (.ret (.au [.agg [sI .i64 0,xQ],sI .i64 201]) [.ob (aD.gr 160 true) (ab6 aa (ab6 aa (ab6 aa (ab6 aa (ab6 aa (ab6 aa (ab6 aa (ab6 aa (ab6 AV.p cs)))))))))])))
 (.must (ej (sI .i64 (sb.wrap ((↑(k+1):Int)-1))) (sI .i64 (↑k:Int))&&((aJ k).ble (k+1)&&true&&true&&true&&true)&&true)
 (.must true
 (.out (.ret (.au [.agg [sI .i64 (sb.wrap (sb.wrap (h-bif true then aco res (sb.wrap (h-base)) else acx res (sb.wrap (h-base)))+res)),.ms 1 0 (aJ k-0) 4 none],sI .i64 0]) [.ob (aD.gr 160 true) (ab6 aa (ab6 aa (ab6 aa (ab6 aa (ab6 aa (ab6 aa (ab6 aa (ab6 aa (ab6 AV.p cs))))))))),.ob (aD.gr 160 true) (ab6 aa (ab6 aa (ab6 aa (ab6 aa (ab6 aa (ab6 aa (ab6 aa (ab6 aa (ab6 aa (ab6 aa (ab6 AV.p cl)))))))))))]))))))))))))))
theorem Bg (h:Int) (k:Nat) (cs:List PV) (cl:List PV) (op base res:Int) (dead:Bool) (n:Int):aG acb (aaX h k cs cl op base res dead n) (SC h k cs cl op base res dead n) 1000000 119 ([AV.agg [sI sb h,AV.ms 0 0 (k+1) 4 acg]]) ([dc cs]) Xu=yO h k cs cl op base res dead n:=by kernel_rfl
theorem an.eG {rows:List (Nat×Nat×AV)} {f:FuncId} {args:List AV} {m m':Mem} {v:AV} (h:an acb env f args m v m'):an acb (uW rows) f args m v m':=h.env fun _ _ q=>q
theorem CX:acb.underlying 3=some (.int .i64):=by kernel_rfl
theorem CY:acb.underlying 4=some .bool:=by kernel_rfl
theorem iw (k:IntKind) (a b:Int):ej (.p (.sc (.int k a))) (.p (.sc (.int k b)))=decide (a=b):=by
 simp only[ej,zh,TY,BB]
 cases k<;>rfl
theorem dW (a b:Bool):ej (.p (.sc (.bool a))) (.p (.sc (.bool b)))=eL a b:=by
 simp only[ej,zh,TY]
theorem GF (a b:Bool):eL a b=true↔a=b:=by cases a<;>cases b<;>simp[eL]
theorem jI (l:List PV) (i:Nat) (v:PV):cW (ab6 AV.p l) i [AV.p v]=ab6 AV.p (l.set i v):=by
 simp only[cW,List.map_set]
theorem IP : ∀(o:List Fr) (t:Fr),(aO (o++[t])).set (o.length*4+3) (.sc (.bool true))=aO (o++[⟨t.op,t.base,t.res,true⟩])
 |[],t=>rfl
 |f::o,t=>by
  simp only[List.cons_append,aO,QP,List.length_cons]
  rw[show(o.length+1)*4+3=(o.length*4+3)+1+1+1+1 by omega]
  simp only[List.set_cons_succ,IP o t]
section
variable {h:Int} {o:List Fr} {t:Fr} (ex:List PV) (hok:fV h (o++[t]))
theorem EO {h:Int} : ∀{l:List Fr} {b:Int},yK h b l→0≤b → ∀f∈l,0≤f.base∧f.base≤h∧0≤f.res∧f.res≤1
 |[],_,_,_,_,hf=>by cases hf
 |x::r,b,hk,hb,f,hf=>by
  obtain⟨_,h2,h3,h4,h5,h6⟩:=hk
  cases hf with
  |head=>exact⟨by omega,h3,h4,h5⟩
  |tail _ hf=>exact EO h6 (by omega) f hf
theorem jh {h:Int} {l:List Fr} (hk:fV h l) : ∀f∈l,0≤f.base∧f.base≤h∧0≤f.res∧f.res≤1:=by
 cases l with
 |nil=>exact hk.elim
 |cons x r=>
  obtain⟨_,h2,h3,h4,h5,h6,_⟩:=hk
  intro f hf
  cases hf with
  |head=>exact⟨by omega,by omega,h3,h4⟩
  |tail _ hf=>exact EO h5 (by omega) f hf
theorem uX {h:Int} {l:List Fr} (hk:fV h l):0≤h∧h≤1073741824∧l.length≤1000:=by
 cases l with
 |nil=>exact hk.elim
 |cons x r=>exact⟨hk.2.2.2.2.2.1,hk.2.2.2.2.2.2.1,hk.2.2.2.2.2.2.2⟩
include hok in
theorem dI:(o.length+1=(o++[t]).length)∧o.length≤999∧0≤h∧h≤1073741824∧0≤t.base∧t.base≤h∧0≤t.res∧t.res≤1∧(aO (o++[t])++ex).take ((o.length+1)*4)=aO (o++[t]) ∧
  (o.length+1)*4≤(aO (o++[t])++ex).length∧(aO (o++[t])).length=(o.length+1)*4:=by
 have h1:o.length+1=(o++[t]).length:=by simp
 have h2:(aO (o++[t])).length=(o.length+1)*4:=by rw[ir,h1]
 obtain⟨n1,n2,n3⟩:=uX hok
 obtain⟨m1,m2,m3,m4⟩:=jh hok t (by simp)
 exact⟨h1,by omega,n1,n2,m1,m2,m3,m4,by rw[List.take_append_of_le_length (by omega),dq (by omega)],by rw[di];omega,h2⟩
include hok in
theorem zY:an acb env 164 [.agg [sI .i64 h,.ms 0 0 (o.length+1) 4 none]] [dc (aO (o++[t])++ex)] (sI .i64 0) [dc (aO (o++[t])++ex)]:=by
 have:=EI h (o++[t]) ex hok
 rw[di] at this
 exact this
include hok in
theorem zZ:an acb env 165 [.ms 0 0 (o.length+1) 4 none] [dc (aO (o++[t])++ex)] (.ms 1 0 (o.length+1) 4 none) [dc (aO (o++[t])++ex),dc (aO (o++[t]))]:=by
 obtain⟨_,f2,_,_,_,_,_,_,f9,f10,_⟩:=dI ex hok
 have:=GD o.length (by omega) _ f10
 rw[f9] at this
 exact this
theorem fW (o:List Fr) (t:Fr):(ab6 AV.p (aO (o++[t]))).getD (o.length*4) .ah=sI .i64 t.op∧(ab6 AV.p (aO (o++[t]))).getD (o.length*4+1) .ah=sI .i64 t.base ∧
  (ab6 AV.p (aO (o++[t]))).getD (o.length*4+2) .ah=sI .i64 t.res∧(ab6 AV.p (aO (o++[t]))).getD (o.length*4+3) .ah=sB t.dead:=by
 have:=sv (l:=o++[t]) (k:=o.length) (f:=t) (by simp) []
 simpa using this
include hok in
theorem Xv {n:Int} (hn:0≤n) (hc:n≤h-t.base) :
  an acb env 159 [.agg [sI .i64 h,.ms 0 0 (o.length+1) 4 none],sI .i64 n] [dc (aO (o++[t])++ex)] (.au [.agg [sI .i64 (h-n),.ms 1 0 (o.length+1) 4 none],sI .i64 0]) [dc (aO (o++[t])++ex),dc (aO (o++[t]))]:=by
 obtain⟨f1,f2,f3,f4,f5,f6,f7,f8,f9,f10,f11⟩:=dI ex hok
 obtain⟨c0,c1,c2,c3⟩:=fW o t
 have Cr:gi=70368744177664:=rfl
 refine an.gV (rows:=KS o.length t.base t.res t.dead false) ?_
 refine af aM (Ki h o.length (aO (o++[t])++ex) (aO (o++[t])) t.op t.base t.res t.dead n) ?_
 have w1:sb.wrap (((o.length+1:Nat):Int)-1)=(o.length:Int):=by rw[aN (by omega) (by omega)];omega
 have w2:sb.wrap (h-t.base)=h-t.base:=aN (by omega) (by omega)
 have w3:min n (h-t.base)=n:=by omega
 have w4:sb.wrap (h-n)=h-n:=by exact aN (by omega) (by omega)
 have g1:decide (n≥0)=true:=by simp;omega
 have g2:decide (n>h-t.base)=false:=by simp;omega
 simp only[EJ,bF,az.ok,w3,w4,g1,g2,w1,w2,aC,jI,acy,pw,abK,c0,c1,c2,c3,CX,CY,bh,iA,isInt,isBool,av,bD,ik,cond_true,iw,dW,eL,my,f11,←afj,←ab3,oT,wi,
  yi,ph,pb,ae5,false_implies,true_implies,and_true,true_and,aeq,aeM,aeN,c8,decide_eq_true_eq,aW]
 refine⟨an.eG (zY ex hok),an.eG (zZ ex hok),?_⟩
 repeat' apply afp
 all_goals omega
include hok in
theorem OO {n:Int} (hn:0≤n) (hc:h-t.base<n) (hd:t.dead=true) :
  an acb env 159 [.agg [sI .i64 h,.ms 0 0 (o.length+1) 4 none],sI .i64 n] [dc (aO (o++[t])++ex)] (.au [.agg [sI .i64 t.base,.ms 1 0 (o.length+1) 4 none],sI .i64 0]) [dc (aO (o++[t])++ex),dc (aO (o++[t]))]:=by
 obtain⟨f1,f2,f3,f4,f5,f6,f7,f8,f9,f10,f11⟩:=dI ex hok
 obtain⟨c0,c1,c2,c3⟩:=fW o t
 have Cr:gi=70368744177664:=rfl
 refine an.gV (rows:=KS o.length t.base t.res t.dead true) ?_
 refine af aM (Be h o.length (aO (o++[t])++ex) (aO (o++[t])) t.op t.base t.res t.dead n) ?_
 have w1:sb.wrap (((o.length+1:Nat):Int)-1)=(o.length:Int):=by rw[aN (by omega) (by omega)];omega
 have w2:sb.wrap (h-t.base)=h-t.base:=aN (by omega) (by omega)
 have w3:min n (h-t.base)=h-t.base:=by omega
 have w4:sb.wrap (h-(h-t.base))=t.base:=by rw[aN (by omega) (by omega)];omega
 have g1:decide (n≥0)=true:=by simp;omega
 have g2:decide (n>h-t.base)=true:=by simp;omega
 simp only[yM,bF,az.ok,w3,w4,g1,g2,hd,w1,w2,aC,jI,acy,pw,abK,c0,c1,c2,c3,CX,CY,bh,iA,isInt,isBool,av,bD,ik,cond_true,iw,dW,eL,my,f11,←afj,←ab3,oT,wi,
  yi,ph,pb,ae5,false_implies,true_implies,and_true,true_and,aeq,aeM,aeN,c8,decide_eq_true_eq,aW]
 refine⟨an.eG (zY ex hok),an.eG (zZ ex hok),?_⟩
 repeat' apply afp
 all_goals omega
include hok in
theorem SD {n:Int} (hn:0≤n) (hc:h-t.base<n) (hd:t.dead=false) :
  an acb env 159 [.agg [sI .i64 h,.ms 0 0 (o.length+1) 4 none],sI .i64 n] [dc (aO (o++[t])++ex)] (.au [.agg [sI .i64 0,.os none 0 0 []],sI .i64 200]) [dc (aO (o++[t])++ex)]:=by
 obtain⟨f1,f2,f3,f4,f5,f6,f7,f8,f9,f10,f11⟩:=dI ex hok
 obtain⟨c0,c1,c2,c3⟩:=fW o t
 have Cr:gi=70368744177664:=rfl
 refine an.gV (rows:=KS o.length t.base t.res t.dead true) ?_
 refine af aM (Be h o.length (aO (o++[t])++ex) (aO (o++[t])) t.op t.base t.res t.dead n) ?_
 have w1:sb.wrap (((o.length+1:Nat):Int)-1)=(o.length:Int):=by rw[aN (by omega) (by omega)];omega
 have w2:sb.wrap (h-t.base)=h-t.base:=aN (by omega) (by omega)
 have g1:decide (n≥0)=true:=by simp;omega
 have g2:decide (n>h-t.base)=true:=by simp;omega
 simp only[yM,bF,az.ok,g1,g2,hd,w1,w2,aC,jI,acy,pw,abK,c0,c1,c2,c3,CX,CY,bh,iA,isInt,isBool,av,bD,ik,cond_true,iw,dW,eL,my,f11,←afj,←ab3,oT,wi,
  yi,ph,pb,ae5,false_implies,true_implies,and_true,true_and,aeq,aeM,aeN,c8,decide_eq_true_eq,aW]
 refine⟨an.eG (zY ex hok),an.eG (zZ ex hok),?_⟩
 repeat' apply afp
 all_goals omega
include hok in
theorem SE {n:Int} (hn:0≤n) (hc:h+n≤1073741824) :
  an acb env 161 [.agg [sI .i64 h,.ms 0 0 (o.length+1) 4 none],sI .i64 n] [dc (aO (o++[t])++ex)] (.au [.agg [sI .i64 (h+n),.ms 1 0 (o.length+1) 4 none],sI .i64 0]) [dc (aO (o++[t])++ex),dc (aO (o++[t]))]:=by
 obtain⟨f1,f2,f3,f4,f5,f6,f7,f8,f9,f10,f11⟩:=dI ex hok
 obtain⟨c0,c1,c2,c3⟩:=fW o t
 have Cr:gi=70368744177664:=rfl
 refine an.gV (rows:=KS o.length t.base t.res t.dead false) ?_
 refine af aM (Kj h o.length (aO (o++[t])++ex) (aO (o++[t])) t.op t.base t.res t.dead n) ?_
 have w1:sb.wrap (((o.length+1:Nat):Int)-1)=(o.length:Int):=by rw[aN (by omega) (by omega)];omega
 have w2:sb.wrap (h-t.base)=h-t.base:=aN (by omega) (by omega)
 have w4:sb.wrap (h+n)=h+n:=by exact aN (by omega) (by omega)
 have w5:sb.wrap (1073741824-h)=1073741824-h:=by exact aN (by omega) (by omega)
 have g1:decide (n≥0)=true:=by simp;omega
 have g2:decide (n>1073741824-h)=false:=by simp;omega
 simp only[EK,bF,az.ok,w4,w5,g1,g2,w1,w2,aC,jI,acy,pw,abK,c0,c1,c2,c3,CX,CY,bh,iA,isInt,isBool,av,bD,ik,cond_true,iw,dW,eL,my,f11,←afj,←ab3,oT,wi,
  yi,ph,pb,ae5,false_implies,true_implies,and_true,true_and,aeq,aeM,aeN,c8,decide_eq_true_eq,aW]
 refine⟨an.eG (zY ex hok),an.eG (zZ ex hok),?_⟩
 repeat' apply afp
 all_goals omega
include hok in
theorem SF :
  an acb env 155 [.agg [sI .i64 h,.ms 0 0 (o.length+1) 4 none]] [dc (aO (o++[t])++ex)] (.au [.agg [sI .i64 t.base,.ms 1 0 (o.length+1) 4 none],sI .i64 0]) [dc (aO (o++[t])++ex),dc (aO (o++[⟨t.op,t.base,t.res,true⟩]))]:=by
 obtain⟨f1,f2,f3,f4,f5,f6,f7,f8,f9,f10,f11⟩:=dI ex hok
 obtain⟨c0,c1,c2,c3⟩:=fW o t
 have Cr:gi=70368744177664:=rfl
 refine an.gV (rows:=KS o.length t.base t.res t.dead false) ?_
 refine af aM (Kk h o.length (aO (o++[t])++ex) (aO (o++[t])) t.op t.base t.res t.dead 0) ?_
 have w1:sb.wrap (((o.length+1:Nat):Int)-1)=(o.length:Int):=by rw[aN (by omega) (by omega)];omega
 have w2:sb.wrap (h-t.base)=h-t.base:=aN (by omega) (by omega)
 simp only[EL,bF,az.ok,IP o t,w1,w2,aC,jI,acy,pw,abK,c0,c1,c2,c3,CX,CY,bh,iA,isInt,isBool,av,bD,ik,cond_true,iw,dW,eL,my,f11,←afj,←ab3,oT,wi,
  yi,ph,pb,ae5,false_implies,true_implies,and_true,true_and,aeq,aeM,aeN,c8,decide_eq_true_eq,aW]
 refine⟨an.eG (zY ex hok),an.eG (zZ ex hok),?_⟩
 repeat' apply afp
 all_goals omega
include hok in
theorem EP (hc:t.res=h-t.base) :
  an acb env 119 [.agg [sI .i64 h,.ms 0 0 (o.length+1) 4 none]] [dc (aO (o++[t])++ex)] (.au [.agg [sI .i64 (t.base+t.res),.ms 1 0 o.length 4 none],sI .i64 0]) [dc (aO (o++[t])++ex),dc (aO (o++[t]))]:=by
 obtain⟨f1,f2,f3,f4,f5,f6,f7,f8,f9,f10,f11⟩:=dI ex hok
 obtain⟨c0,c1,c2,c3⟩:=fW o t
 refine an.gV (rows:=KS o.length t.base t.res t.dead false) ?_
 refine af aM (Bf h o.length (aO (o++[t])++ex) (aO (o++[t])) t.op t.base t.res t.dead 0) ?_
 have w1:sb.wrap (((o.length+1:Nat):Int)-1)=(o.length:Int):=by rw[aN (by omega) (by omega)];omega
 have w2:sb.wrap (h-t.base)=h-t.base:=aN (by omega) (by omega)
 have w3:min t.res (h-t.base)=t.res:=by omega
 have w4:sb.wrap (h-t.res)=t.base:=by rw[aN (by omega) (by omega)];omega
 have w5:sb.wrap (t.base+t.res)=t.base+t.res:=by exact aN (by omega) (by omega)
 have g3:decide (t.base>t.base)=false:=by simp
 have g2:decide (t.res>h-t.base)=false:=by simp;omega
 simp only[yN,bF,az.ok,w3,w4,w5,g2,g3,w1,w2,aC,jI,acy,pw,abK,c0,c1,c2,c3,CX,CY,bh,iA,isInt,isBool,av,bD,ik,cond_true,iw,dW,eL,my,f11,
  yi,ph,pb,ae5,false_implies,true_implies,and_true,true_and,aeq,aeM,aeN,c8,decide_eq_true_eq,aW]
 refine⟨an.eG (zY ex hok),an.eG (zZ ex hok),?_⟩
 repeat' apply afp
 all_goals omega
include hok in
theorem yP (hc:h-t.base<t.res) (hd:t.dead=true) :
  an acb env 119 [.agg [sI .i64 h,.ms 0 0 (o.length+1) 4 none]] [dc (aO (o++[t])++ex)] (.au [.agg [sI .i64 (t.base+t.res),.ms 1 0 o.length 4 none],sI .i64 0]) [dc (aO (o++[t])++ex),dc (aO (o++[t]))]:=by
 obtain⟨f1,f2,f3,f4,f5,f6,f7,f8,f9,f10,f11⟩:=dI ex hok
 obtain⟨c0,c1,c2,c3⟩:=fW o t
 refine an.gV (rows:=KS o.length t.base t.res t.dead true) ?_
 refine af aM (Bg h o.length (aO (o++[t])++ex) (aO (o++[t])) t.op t.base t.res t.dead 0) ?_
 have w1:sb.wrap (((o.length+1:Nat):Int)-1)=(o.length:Int):=by rw[aN (by omega) (by omega)];omega
 have w2:sb.wrap (h-t.base)=h-t.base:=aN (by omega) (by omega)
 have w3:min t.res (h-t.base)=h-t.base:=by omega
 have w4:sb.wrap (h-(h-t.base))=t.base:=by rw[aN (by omega) (by omega)];omega
 have w5:sb.wrap (t.base+t.res)=t.base+t.res:=by exact aN (by omega) (by omega)
 have g3:decide (t.base>t.base)=false:=by simp
 have g2:decide (t.res>h-t.base)=true:=by simp;omega
 simp only[yO,bF,az.ok,w3,w4,w5,g2,g3,hd,w1,w2,aC,jI,acy,pw,abK,c0,c1,c2,c3,CX,CY,bh,iA,isInt,isBool,av,bD,ik,cond_true,iw,dW,eL,my,f11,
  yi,ph,pb,ae5,false_implies,true_implies,and_true,true_and,aeq,aeM,aeN,c8,decide_eq_true_eq,aW]
 refine⟨an.eG (zY ex hok),an.eG (zZ ex hok),?_⟩
 repeat' apply afp
 all_goals omega
include hok in
theorem yQ (hc:t.res<h-t.base) :
  an acb env 119 [.agg [sI .i64 h,.ms 0 0 (o.length+1) 4 none]] [dc (aO (o++[t])++ex)] (.au [.agg [sI .i64 0,.os none 0 0 []],sI .i64 201]) [dc (aO (o++[t])++ex)]:=by
 obtain⟨f1,f2,f3,f4,f5,f6,f7,f8,f9,f10,f11⟩:=dI ex hok
 obtain⟨c0,c1,c2,c3⟩:=fW o t
 refine an.gV (rows:=KS o.length t.base t.res t.dead false) ?_
 refine af aM (Bf h o.length (aO (o++[t])++ex) (aO (o++[t])) t.op t.base t.res t.dead 0) ?_
 have w1:sb.wrap (((o.length+1:Nat):Int)-1)=(o.length:Int):=by rw[aN (by omega) (by omega)];omega
 have w2:sb.wrap (h-t.base)=h-t.base:=aN (by omega) (by omega)
 have w3:min t.res (h-t.base)=t.res:=by omega
 have w4:sb.wrap (h-t.res)=h-t.res:=by exact aN (by omega) (by omega)
 have g3:decide (h-t.res>t.base)=true:=by simp;omega
 have g2:decide (t.res>h-t.base)=false:=by simp;omega
 simp only[yN,bF,az.ok,w3,w4,g2,g3,w1,w2,aC,jI,acy,pw,abK,c0,c1,c2,c3,CX,CY,bh,iA,isInt,isBool,av,bD,ik,cond_true,iw,dW,eL,my,f11,
  yi,ph,pb,ae5,false_implies,true_implies,and_true,true_and,aeq,aeM,aeN,c8,decide_eq_true_eq,aW]
 refine⟨an.eG (zY ex hok),an.eG (zZ ex hok),?_⟩
 repeat' apply afp
 all_goals omega
include hok in
theorem uY (hc:h-t.base<t.res) (hd:t.dead=false) :
  an acb env 119 [.agg [sI .i64 h,.ms 0 0 (o.length+1) 4 none]] [dc (aO (o++[t])++ex)] (.au [.agg [sI .i64 0,.os none 0 0 []],sI .i64 200]) [dc (aO (o++[t])++ex)]:=by
 obtain⟨f1,f2,f3,f4,f5,f6,f7,f8,f9,f10,f11⟩:=dI ex hok
 obtain⟨c0,c1,c2,c3⟩:=fW o t
 refine an.gV (rows:=KS o.length t.base t.res t.dead true) ?_
 refine af aM (Bg h o.length (aO (o++[t])++ex) (aO (o++[t])) t.op t.base t.res t.dead 0) ?_
 have w1:sb.wrap (((o.length+1:Nat):Int)-1)=(o.length:Int):=by rw[aN (by omega) (by omega)];omega
 have w2:sb.wrap (h-t.base)=h-t.base:=aN (by omega) (by omega)
 have g2:decide (t.res>h-t.base)=true:=by simp;omega
 simp only[yO,bF,az.ok,g2,hd,w1,w2,aC,jI,acy,pw,abK,c0,c1,c2,c3,CX,CY,bh,iA,isInt,isBool,av,bD,ik,cond_true,iw,dW,eL,my,f11,
  yi,ph,pb,ae5,false_implies,true_implies,and_true,true_and,aeq,aeM,aeN,c8,decide_eq_true_eq,aW]
 refine⟨an.eG (zY ex hok),an.eG (zZ ex hok),?_⟩
 repeat' apply afp
 all_goals omega
include hok in
theorem OP {op n:Int} (ho:op=2∨op=3∨op=4∨op=5) (hn:0≤n) (hn1:n≤1) (hlt:o.length+1<1000) :
  an acb env 173 [.agg [sI .i64 h,.ms 0 0 (o.length+1) 4 none],sI .i64 op,sI .i64 n] [dc (aO (o++[t])++ex)] (.au [.agg [sI .i64 h,.ms 1 0 (o.length+2) 4 none],sI .i64 0]) [dc (aO (o++[t])++ex),dc (aO (o++[t]++[⟨op,h,n,false⟩]))]:=by
 obtain⟨f1,f2,f3,f4,f5,f6,f7,f8,f9,f10,f11⟩:=dI ex hok
 have Cr:gi=70368744177664:=rfl
 have Lm:aO (o++[t]++[⟨op,h,n,false⟩])=aO (o++[t])++frC op h n false:=by rw[mV];rfl
 have T6:(aO (o++[t])).take ((o.length+1)*4)=aO (o++[t]):=dq (by omega)
 have tur:an acb env 138 [.agg [sI .i64 h,.ms 0 0 (o.length+1) 4 none],sB true,.fn (.func 183) [] [.mp 1 0,.mp 2 0]] [dc (aO (o++[t])++ex),.pc [.sc (.int .i64 op)],.pc [.sc (.int .i64 n)]]
   (.au [.agg [sI .i64 h,.ms 3 0 (o.length+2) 4 none],sI .i64 0]) [dc (aO (o++[t])++ex),.pc [.sc (.int .i64 op)],.pc [.sc (.int .i64 n)],dc (aO (o++[t]++[⟨op,h,n,false⟩]))]:=by
  refine an.gV (rows:=KS o.length t.base t.res t.dead false) ?_
  refine af aM (Kl h o.length (aO (o++[t])++ex) (aO (o++[t])) op t.base t.res t.dead n) ?_
  have w1:sb.wrap (((o.length+1:Nat):Int)-1)=(o.length:Int):=by rw[aN (by omega) (by omega)];omega
  have g1:decide (((o.length+1:Nat):Int)≥1000)=false:=by simp;omega
  have hm:ab6 AV.p (aO (o++[t]))++[AV.p (PV.sc (sT sb op)),AV.p (PV.sc (sT sb h)),AV.p (PV.sc (sT sb n)),AV.p (PV.sc (afo false))]=ab6 AV.p (aO (o++[t]++[⟨op,h,n,false⟩])):=by rw[Lm,ab3];rfl
  simp only[EM,bF,az.ok,w1,g1,aC,←afj,T6,hm,my,f11,pb,false_implies,true_implies,and_true,true_and,aeq,aeN,c8,decide_eq_true_eq,aW]
  refine⟨an.eG (zY ex hok),an.eG (zZ ex hok),?_⟩
  repeat' apply afp
  all_goals omega
 refine an.gV (rows:=[(173,13,sB true),(173,17,sB true)]) ?_
 refine af aM (Km h o.length (aO (o++[t])++ex) (aO (o++[t]++[⟨op,h,n,false⟩])) op t.base t.res t.dead n) ?_
 have g1:decide (n≥0)=true:=by simp;omega
 have g2:decide (n≤1)=true:=by simp;omega
 simp only[EN,az.ok,g1,g2,aC,dW,eL,and_true,true_and,aeq]
 exact⟨an.eG (Bd ho),an.eG tur⟩
end
end Go.Proofs.YtdmmllcjgjmbbaaGreatDoor.N
end
