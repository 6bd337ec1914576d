import Derived.Test.YtdmmllcjgjmbbaaGreatDoorMJ
import Derived.Test.YtdmmllcjgjmbbaaGreatDoorMK
import Derived.Test.YtdmmllcjgjmbbaaGreatDoorMG
open Nat renaming beq→ae
open Go.IntKind renaming i64→sb,u32→abY
open Go.Proofs.Tryz renaming prog→acb
open List renaming flatMap→aem,getElem?_eq_getElem→cb,map→ab6
open Go.Fn renaming func→acm
open Bool renaming and_eq_true→c8,and_true→aeq,true_and→aeM
noncomputable section
section
set_option linter.unusedSimpArgs false
set_option linter.unusedVariables false
namespace Go.Proofs.YtdmmllcjgjmbbaaGreatDoor.N
open Go Go.Am
def vkC (l:List Ins) (c:Int) (f:FuncId) (args:List AV) (m:Mem):Option (AV×Mem):=cond (ae f 106) (some (sI .i64 c,m)) none
def vmC (l:List Ins) (u e:Int) (f:FuncId) (args:List AV) (m:Mem):Option (AV×Mem):=cond (ae f 89) (some (.au [sI .u32 u,sI .i64 e],m)) none
def vnQ (M:Mo) (i:Nat) (b:Bool) (e:Int) (k:Nat) (f:FuncId) (args:List AV) (m:Mem):Option (AV×Mem):=cond (ae f 88) (some (sB b,m)) (cond (ae f 92||ae f 98) (some (.au [sI .i64 e,sI .i64 0],m)) none)
def vzC (M:Mo) (i:Nat) (p q e a:Int) (b:Bool) (f:FuncId) (args:List AV) (m:Mem):Option (AV×Mem):=cond (ae f 40||ae f 92) (some (.au [sI .i64 e,sI .i64 a],m)) (cond (ae f 8) (some (.au [.agg [sI .i64 p,sI .i64 q],sB b],m)) none)
def vqC (M:Mo) (l:List Ins) (fs:List Int) (b:Bool) (f:FuncId) (args:List AV) (m:Mem):Option (AV×Mem):=cond (ae f 88) (some (sB b,m)) none
def aan (l:List Ins) (c:Int):bH:=aT (vkC l c) aA [] [(89,2,4),(89,2,11),(89,0,0)] [(89,2,5),(89,2,7),(89,4,1),(89,4,3)]
def adF:Sc:=(.fork (.lit (.lit .fin)) (.fork (.lit .fin) .fin))
def NR (l:List Ins) (c:Int):az:=
 (.test ((↑l.length:Int) != 1)
 (.out (.ret (.au [sI .u32 0,sI .i64 210]) []))
 (.must (aW 0 l.length&&true&&true)
 (.must (isInt sb (aF (aq l) 0)&&true)
 (.test (av (aF (aq l) 0) != 65)
 (.out (.ret (.au [sI .u32 0,sI .i64 210]) []))
 (.call ⟨106,[.p (.ps l.length 8 (aq l))],[],sI .i64 c,[]⟩
 (.test (c != 0)
 (.out (.ret (.au [sI .u32 0,sI .i64 210]) []))
 (.must (aW 0 l.length&&true&&true)
 (.must (isInt IntKind.i32 (aF (aq l) 4)&&true)
 (.out (.ret (.au [sI .u32 (abY.wrap (av (aF (aq l) 4))),sI .i64 0]) []))))))))))
theorem rX (l:List Ins) (c:Int):aG acb env (aan l c) 1000000 89 ([aL l]) ([]) adF=NR l c:=by kernel_rfl
def aao (l:List Ins) (u e:Int):bH:=aT (vmC l u e) aA [] [] []
def adG:Sc:= .fin
def NS (l:List Ins) (u e:Int):az:=
 (.call ⟨89,[.p (.ps l.length 8 (aq l))],[],.au [sI .u32 u,sI .i64 e],[]⟩
 (.out (.ret (.p (.sc (.bool (e==0)))) [])))
theorem RM (l:List Ins) (u e:Int):aG acb env (aao l u e) 1000000 88 ([aL l]) ([]) adG=NS l u e:=by kernel_rfl
def aap:bH:=aT aH aA [] [] [(94,0,0)]
def adH (M:Mo) (i:Nat) (b:Bool) (e:Int):Sc:=(.C4 94 1 (vnQ M i b e 0) .fin)
def NT (M:Mo) (i:Nat) (b:Bool) (e:Int):az:=
 (.call ⟨88,[.p (.ps (aE (aF (aem dD M.gls) (aJ i*2+1))) (bC (aF (aem dD M.gls) (aJ i*2+1))) (aB (aF (aem dD M.gls) (aJ i*2+1))))],[],.p (.sc (.bool b)),[]⟩
 (.call ⟨92,[.p (.sc (.bool b)),sI .i64 210],[],.au [sI .i64 e,sI .i64 0],[]⟩
 (.must (aW (↑i:Int) M.gls.length&&true&&true&&(bB (aF (aem dD M.gls) (aJ i*2+1))&&true&&true)&&true)
 (.must true
 (.out (.ret (.au [sI .i64 e,sI .i64 0]) [.ac [.fn (acm 88) [] []],.pc M.aI]))))))
theorem RN (M:Mo) (i:Nat) (b:Bool) (e:Int):aG acb env aap 1000000 94 ([sI sb (↑i:Int),AV.mp 0 0,AV.mp 1 0]) ([aU.ac [AV.fn (acm 88) [] []],aU.pc M.aI]) (adH M i b e)=NT M i b e:=by kernel_rfl
def aaq:bH:=aT aH aA [] [(100,0,0)] [(100,0,1)]
def adI (M:Mo) (i:Nat) (b:Bool) (e:Int):Sc:=(.fork .fin (.C4 100 3 (vnQ M i b e 0) .fin))
def NU (M:Mo) (i:Nat) (b:Bool) (e:Int):az:=
 (.test ((↑M.gA.length:Int)==0)
 (.must true
 (.out (.ret (.au [sI .i64 6,sI .i64 0]) [.pc M.aI,.ac [.fn (acm 88) [] []]])))
 (.call ⟨88,[.p (.ps (aE (aF (aem bU M.bk) (aJ i*2+0))) (bC (aF (aem bU M.bk) (aJ i*2+0))) (aB (aF (aem bU M.bk) (aJ i*2+0))))],[],.p (.sc (.bool b)),[]⟩
 (.call ⟨92,[.p (.sc (.bool b)),sI .i64 210],[],.au [sI .i64 e,sI .i64 0],[]⟩
 (.must (aW (↑i:Int) M.bk.length&&true&&true&&(bB (aF (aem bU M.bk) (aJ i*2+0))&&true&&true)&&true)
 (.must true
 (.out (.ret (.au [sI .i64 e,sI .i64 0]) [.pc M.aI,.ac [.fn (acm 88) [] []]])))))))
theorem RO (M:Mo) (i:Nat) (b:Bool) (e:Int):aG acb env aaq 1000000 100 ([sI sb (↑i:Int),AV.mp 0 0,AV.mp 1 0]) ([aU.pc M.aI,aU.ac [AV.fn (acm 88) [] []]]) (adI M i b e)=NU M i b e:=by kernel_rfl
def aar:bH:=aT aH aA [] [] [(97,0,0)]
def adJ (M:Mo) (i:Nat) (b:Bool) (e:Int):Sc:=(.C4 97 1 (vnQ M i b e 0) .fin)
def NV (M:Mo) (i:Nat) (b:Bool) (e:Int):az:=
 (.call ⟨98,[.agg (ab6 AV.p M.aI),.agg [.p (.ps (aE (aF (aem bA M.els) (aJ i*2))) (bC (aF (aem bA M.els) (aJ i*2))) (aB (aF (aem bA M.els) (aJ i*2)))),.p (.ps (aE (aF (aem bA M.els) (aJ i*2+1))) (bC (aF (aem bA M.els) (aJ i*2+1))) (aB (aF (aem bA M.els) (aJ i*2+1))))],.fn (acm 88) [] []],[],.au [sI .i64 e,sI .i64 0],[]⟩
 (.must (aW (↑i:Int) M.els.length&&true&&true&&(bB (aF (aem bA M.els) (aJ i*2))&&(bB (aF (aem bA M.els) (aJ i*2+1))&&true)&&true&&true)&&true)
 (.must true
 (.out (.ret (.au [sI .i64 e,sI .i64 0]) [.pc M.aI,.ac [.fn (acm 88) [] []]])))))
theorem RP (M:Mo) (i:Nat) (b:Bool) (e:Int):aG acb env aar 1000000 97 ([sI sb (↑i:Int),AV.mp 0 0,AV.mp 1 0]) ([aU.pc M.aI,aU.ac [AV.fn (acm 88) [] []]]) (adJ M i b e)=NV M i b e:=by kernel_rfl
def aas (M:Mo) (i:Nat) (p q e a:Int) (b:Bool):bH:=aT (vzC M i p q e a b) aA [] [] []
def adK:Sc:= .fin
def Wt (M:Mo) (i:Nat) (p q e a:Int) (b:Bool):az:=
 (.call ⟨40,[.agg (ab6 AV.p M.aI),sI .i64 (↑i:Int)],[],.au [sI .i64 e,sI .i64 a],[]⟩
 (.out (.ret (.au [sI .i64 e,sI .i64 a]) [.pc M.aI])))
theorem RQ (M:Mo) (i:Nat) (p q e a:Int) (b:Bool):aG acb env (aas M i p q e a b) 1000000 99 ([sI sb (↑i:Int),AV.mp 0 0]) ([aU.pc M.aI]) adK=Wt M i p q e a b:=by kernel_rfl
def aat (M:Mo) (i:Nat) (p q e a:Int) (b:Bool):bH:=aT (vzC M i p q e a b) aA [] [(96,0,0)] []
def adL:Sc:= .fin
def Gs (M:Mo) (i:Nat) (p q e a:Int) (b:Bool):az:=
 (.call ⟨8,[.agg (ab6 AV.p M.aI),sI .u32 M.sn],[],.au [.agg [sI .i64 p,sI .i64 q],.p (.sc (.bool b))],[]⟩
 (.test (!b)
 (.out (.ret (.au [sI .i64 6,sI .i64 0]) [.pc M.aI]))
 (.call ⟨92,[.p (.sc (.bool ((fun r=>p==0&&r) ((fun r=>q==0&&r) true)))),sI .i64 213],[],.au [sI .i64 e,sI .i64 a],[]⟩
 (.out (.ret (.au [sI .i64 e,sI .i64 a]) [.pc M.aI])))))
theorem Ir (M:Mo) (i:Nat) (p q e a:Int) (b:Bool):aG acb env (aat M i p q e a b) 1000000 96 ([sI sb (↑i:Int),AV.mp 0 0]) ([aU.pc M.aI]) adL=Gs M i p q e a b:=by kernel_rfl
def aau (M:Mo) (l:List Ins) (fs:List Int) (b:Bool):bH:=aT (vqC M l fs b) aA [(98,2)] [(98,0,0),(98,0,1)] []
def adM:Sc:= .fin
def NW (M:Mo) (l:List Ins) (fs:List Int) (b:Bool):az:=
 (.test ((↑M.fR.length:Int)==0)
 (.out (.ret (.au [sI .i64 6,sI .i64 0]) []))
 (.call ⟨88,[.p (.ps l.length 8 (aq l))],[],.p (.sc (.bool b)),[]⟩
 (.test (!b)
 (.out (.ret (.au [sI .i64 210,sI .i64 0]) []))
 (.at (ak acb env 98 2 [.mp 0 0,.p (.ps fs.length 1 (dZ abY fs)),sI .i64 (↑fs.length:Int),sI .i64 0] ([.pc M.aI]) 0 40)))))
theorem RR (M:Mo) (l:List Ins) (fs:List Int) (b:Bool):aG acb env (aau M l fs b) 1000000 98 ([AV.agg (ab6 AV.p M.aI),AV.agg [aL l,AV.p (PV.ps fs.length 1 (dZ abY fs))],AV.fn (acm 88) [] []]) ([]) adM=NW M l fs b:=by kernel_rfl
def nk (l:List Ins):Int:=match l with
 |[.mk op _ _ _ _ _ _ _]=>if op=65 then(if ig tQ l=0 then 0 else 210) else 210
 |_=>210
theorem Gt (l:List Ins) (h:cN l≤100000000000) : ∃u,an acb env 89 [aL l] [] (.au [sI .u32 u,sI .i64 (nk l)]) []:=by
 have hc:=xX A1 l h
 match l,hc with
 |[],hc=>exact⟨0,af aM (rX [] 0) (by simp[NR,bF,az.ok];rfl)⟩
 |x::y::r,hc=>
  have e:nk (x::y::r)=210:=by simp[nk]
  rw[e]
  exact⟨0,af aM (rX (x::y::r) 0) ⟨fun _=>rfl,fun q=>by simp at q;omega⟩⟩
 |[.mk op r a b n tg ll le],hc=>
  by_cases ho:op=65
  · subst ho
    by_cases z:ig tQ [.mk 65 r a b n tg ll le]=0
    · have e:nk [.mk 65 r a b n tg ll le]=0:=by simp[nk,z]
      rw[z] at hc
      rw[e]
      exact⟨abY.wrap n,af aM (rX _ 0) ⟨fun q=>by simp at q,fun _=>⟨rfl,rfl,fun q=>absurd (show((65:Int) != 65)=true from q) (by decide),fun _=>⟨hc,fun q=>by simp at q,fun _=>⟨rfl,rfl,rfl⟩⟩⟩⟩⟩
    · have e:nk [.mk 65 r a b n tg ll le]=210:=by simp[nk,z]
      rw[e]
      exact⟨0,af aM (rX _ _) ⟨fun q=>by simp at q,fun _=>⟨rfl,rfl,fun q=>absurd (show((65:Int) != 65)=true from q) (by decide),fun _=>⟨hc,fun _=>rfl,fun q=>absurd (by simpa using q) z⟩⟩⟩⟩
  · have e:nk [.mk op r a b n tg ll le]=210:=by simp[nk,ho]
    rw[e]
    exact⟨0,af aM (rX _ 0) ⟨fun q=>by simp at q,fun _=>⟨rfl,rfl,fun _=>rfl,fun q=>absurd (show(op != 65)=false from q) (by simpa using ho)⟩⟩⟩
theorem mO (l:List Ins) (h:cN l≤100000000000):an acb env 88 [aL l] [] (sB (nk l==0)) []:=by
 obtain⟨u,k⟩:=Gt l h
 refine af aM (RM l u (nk l)) ?_
 simp only[NS,az.ok]
 exact⟨k,(by first | exact True.intro | rfl)⟩
def P4 (l:List Ins):Int:=if(nk l==0)=true then 0 else 210
theorem RS (M:Mo) {i:Nat} (hi:i<M.gls.length) (h:cN M.gls[i].l≤100000000000):an acb env 94 [sI .i64 i,.mp 0 0,.mp 1 0] (D4 M) (.au [sI .i64 (P4 M.gls[i].l),sI .i64 0]) (D4 M):=by
 have hx:M.gls[i]? = some M.gls[i]:=cb hi
 have c:=bp (z:=2) (enc:=dD) (fun _=>rfl) hx
 have c0:(M.gls.flatMap dD).getD (i*2+1) .bw = .ps M.gls[i].l.length 8 (aq M.gls[i].l):=c 1 (by decide)
 have hin:aW (i:Int) M.gls.length=true:=by simp only[aW,c8,decide_eq_true_eq];omega
 refine af aM (RN M i (nk M.gls[i].l==0) (P4 M.gls[i].l)) ?_
 simp only[NT,bF,az.ok,bB,aE,bC,aB,Int.toNat_natCast,c0,hin,aeq,aeM]
 exact⟨mO _ h,eF _ 210,(by first | rfl | trivial),(by first | rfl | trivial),(by first | rfl | trivial)⟩
theorem RT (M:Mo) {i:Nat} (hi:i<M.bk.length) (h:cN M.bk[i].l≤100000000000):an acb env 100 [sI .i64 i,.mp 0 0,.mp 1 0] (zW M) (.au [sI .i64 (if M.gA.length=0 then 6 else P4 M.bk[i].l),sI .i64 0]) (zW M):=by
 have hx:M.bk[i]? = some M.bk[i]:=cb hi
 have c:=bp (z:=2) (enc:=bU) (fun _=>rfl) hx
 have c0:(M.bk.flatMap bU).getD (i*2+0) .bw = .ps M.bk[i].l.length 8 (aq M.bk[i].l):=c 0 (by decide)
 have hin:aW (i:Int) M.bk.length=true:=by simp only[aW,c8,decide_eq_true_eq];omega
 refine af aM (RO M i (nk M.bk[i].l==0) (P4 M.bk[i].l)) ?_
 simp only[NU,bF,az.ok,bB,aE,bC,aB,Int.toNat_natCast,c0,hin,aeq,aeM]
 by_cases z:M.gA.length=0
 · rw[if_pos z]
   exact⟨fun _=>(by first | exact⟨True.intro,rfl⟩ | rfl),fun q=>absurd z (by intro e;simp[e] at q)⟩
 · rw[if_neg z]
   exact⟨fun q=>absurd (by simpa using q) z,fun _=>⟨mO _ h,eF _ 210,(by first | rfl | trivial),(by first | rfl | trivial),(by first | rfl | trivial)⟩⟩
end Go.Proofs.YtdmmllcjgjmbbaaGreatDoor.N
end
section
namespace Go.Am
open Go.RowKit
section
variable {P:Program} {E:Env} {g:Gh} {m:Mem} {w:World}
theorem Rel.RU (h:Rel g m w) {i:Nat} {k k':aD} {l:List AV} (hb:m[i]? = some (.ob k l)) (hk : ∀ob vs,k.is ob vs→k'.is ob vs) (hr : ∀ob n,k'.room ob n) :
  Rel g (m.set i (.ob k' l)) w∧dm g m w g (m.set i (.ob k' l)) w:=by
 have own : ∀(j:Nat) (x:aU),(m.set i (.ob k' l))[j]? = some x→x.dB=true → ∃y:aU,m[j]? = some y∧y.dB=true:=fun j x hj ho=>by
  rcases aP hj with⟨rfl,_⟩ | ⟨_,q⟩
  · exact⟨_,hb,rfl⟩
  · exact⟨x,q,ho⟩
 refine⟨⟨fun j hj=>h.zb j (by simpa using hj),fun j hj=> ?_,fun j x cs hj hx=> ?_,fun j c hj hc=> ?_,fun j q x x' c hj hq ho ho' hc fO=> ?_,h.there,fun j k1 l1 hj=> ?_⟩,
  ⟨Nat.le_refl _,fun _ _ _=>rfl,fun _ _ p=>⟨p,rfl⟩,fun _ _ p=> .inl p,fun c ho=> ?_,rfl,rfl,rfl⟩⟩
 · rcases aP hj with⟨_,q⟩ | ⟨_,q⟩
   · cases q
   · exact h.free j q
 · rcases aP hj with⟨_,rfl⟩ | ⟨_,q⟩
   · cases hx
   · exact h.cells j x cs q hx
 · rcases aP hj with⟨_,q⟩ | ⟨_,q⟩
   · cases q
   · exact h.tok j c q hc
 · obtain⟨y,y1,y2⟩:=own j x hj ho
   obtain⟨z,z1,z2⟩:=own q x' hq ho'
   exact h.inj j q y z c y1 z1 y2 z2 hc fO
 · rcases aP hj with⟨rfl,q⟩ | ⟨_,q⟩
   · cases q
     obtain⟨c,o,vs,k1,k2,k3,k4,k5,k6⟩:=h.obs _ _ _ hb
     exact⟨c,o,vs,k1,k2,k3,hk _ _ k4,k5,hr _ _⟩
   · exact h.obs j k1 l1 q
 · obtain⟨j,x,hj,hx,hc⟩:=ho
   obtain⟨y,y1,y2⟩:=own j x hj hx
   exact .inl ⟨j,y,y1,y2,hc⟩
theorem cO.more {c:cw} {s:ByteArray} {i:Nat} {o:Out} (hm:c.st.mem=[.ob (.iter s i) []]) (hc:L8 c=true)
  (h:cO P E {c with st:={c.st with mem:=[.ob (.P6 s i (Nat.blt i s.size)) []]}} o):cO P E c o:=by
 refine cO.bn (fun g fr w hr cs=> ?_) h
 obtain⟨f,todo,st⟩:=c
 obtain⟨tm,nt,mem,fix,cA,bX⟩:=st
 dsimp only at hm
 subst hm
 match todo,hc with
 |.code j x::k,_=>
  obtain⟨b,a,q1,q2,q3,q4,q5,q6⟩:=hr
  obtain⟨n1,n2⟩:=q5.rel.RU (i:=0) (k':= .P6 s i (Nat.blt i s.size)) rfl (fun ob vs e=>⟨e.1,e.2,rfl⟩) fun _ _=>trivial
  exact⟨g,fr,w,Steps.refl _ _,⟨b,a,q1,q2,q3,q4,⟨q5.tm,q5.nt,n1,q5.fix,q5.dg⟩,q6⟩,n2,fun _ _ _ fO=>⟨fO,rfl,rfl⟩,rfl,rfl,rfl⟩
end
end Go.Am
end
