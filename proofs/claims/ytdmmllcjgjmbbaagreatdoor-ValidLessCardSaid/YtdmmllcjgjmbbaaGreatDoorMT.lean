import Derived.Test.YtdmmllcjgjmbbaaGreatDoorMS
import Derived.Test.YtdmmllcjgjmbbaaGreatDoorMH
import Derived.Test.YtdmmllcjgjmbbaaGreatDoorMO
import Derived.Test.YtdmmllcjgjmbbaaGreatDoorMF
open Go.IntKind renaming i64→sb,u32→abY,u64→ae6,i32→aeW
open Nat renaming reduceAdd→aca,add_assoc→fi,beq→ae,le_refl→bx
open List renaming getElem?_eq_getElem→cb,getElem_mem→ed,any_eq_false→afe,map→ab6,mem_append→na,mem_map→eh,length_nil→ab4,length_map→my
open Int renaming toNat_natCast→acy
open Bool renaming true_eq_false→ae5,false_eq_true→pb,and_eq_true→c8,and_true→aeq,or_eq_false_iff→pf,or_eq_true→il
open Go.Proofs.Tryz renaming prog→acb
open Go.Fn renaming func→acm
noncomputable section
section
set_option linter.unusedSimpArgs false
set_option linter.unusedVariables false
namespace Go.Proofs.YtdmmllcjgjmbbaaGreatDoor.N
open Go Go.Am
theorem gh {q k n c c' m:Nat} {d d':Bool} {f:Nat→VR} (h:dF q k n d f = .ok m d' c') : ∃x,f x = .ok m d' c':=by
 unfold dF at h;split at h
 · cases h
 · exact⟨_,h⟩
theorem vP {q r n m c':Nat} {d d':Bool} {f:VR} (h:gM r n d q f = .ok m d' c'):f = .ok m d' c':=by
 unfold gM at h
 obtain⟨x,hx⟩:=gh (c:=0) h
 split at hx
 · cases hx
 · exact hx
theorem E6 {V:jH} {ls:List Nat} {op a:Int} {tg:List Int} {n m c c':Nat} {d d':Bool} (h:gj V ls op a tg n d c = .ok m d' c'):c'=c:=by
 unfold gj at h
 split at h
 · split at h
   · cases h
   · obtain⟨x,hx⟩:=gh (c:=0) h
     cases hx;rfl
 split at h
 · split at h
   · cases h
   · obtain⟨x,hx⟩:=gh (c:=0) h
     obtain⟨y,hy⟩:=gh (c:=0) hx
     cases hy;rfl
 split at h
 · split at h
   · cases h
   · obtain⟨x,hx⟩:=gh (c:=0) h
     obtain⟨y,hy⟩:=gh (c:=0) hx
     cases hy;rfl
 split at h
 · obtain⟨x,hx⟩:=gh (c:=0) h
   cases hx;rfl
 split at h
 · split at h
   · cases h
   · obtain⟨x,hx⟩:=gh (c:=0) h
     cases hx;rfl
 split at h
 · split at h
   · cases h
   · obtain⟨x,hx⟩:=gh (c:=0) h
     obtain⟨y,hy⟩:=gh (c:=0) hx
     cases hy;rfl
 split at h
 · cases h
 · obtain⟨x,hx⟩:=gh (c:=0) h
   cases hx;rfl
mutual
theorem qB (V:jH) (ls:List Nat) : ∀(x:Ins) (n:Nat) (d:Bool) (c m:Nat) (d':Bool) (c':Nat),mT V ls x n d c = .ok m d' c'→c≤c'∧c'+1≤c+mK x
 |.mk op r a b nn tg l e,n,d,c,m,d',c',h=>by
  simp only[mT] at h
  simp only[mK]
  split at h
  · cases h;omega
  split at h
  · split at h
    · cases h
    · rename_i n1 d1 c1 h1
      have:=iM V _ l 0 false c n1 d1 c1 h1
      have:=vP h
      cases this;omega
  split at h
  · obtain⟨x,h⟩:=gh (c:=0) h
    split at h
    · cases h
    · rename_i n1 d1 c1 h1
      have:=iM V _ l 0 false c n1 d1 c1 h1
      have h:=vP h
      split at h
      · cases h
      · rename_i n2 d2 c2 h2
        have:=iM V _ e 0 false c1 n2 d2 c2 h2
        have h:=vP h
        cases h;omega
  · have:=E6 h
    omega
theorem iM (V:jH) (ls:List Nat) : ∀(l:List Ins) (n:Nat) (d:Bool) (c m:Nat) (d':Bool) (c':Nat),eV V ls l n d c = .ok m d' c'→c≤c'∧c'≤c+cN l
 |[],n,d,c,m,d',c',h=>by simp only[eV] at h;cases h;simp
 |x::r,n,d,c,m,d',c',h=>by
  simp only[eV] at h
  simp only[cN]
  split at h
  · cases h
  · rename_i n1 d1 c1 h1
    have:=qB V ls x n d (c+1) n1 d1 c1 h1
    have:=iM V ls r n1 d1 c1 m d' c' h
    omega
end
theorem Bv (V:jH) (ls:List Nat) (x:Ins) (r:List Ins) (n:Nat) (d:Bool) (c:Nat):eV V ls (x::r) n d c=(mT V ls x n d (c+1)).and fun n d c=>eV V ls r n d c:=by
 simp only[eV]
 cases mT V ls x n d (c+1)<;>rfl
theorem iku:(abY==abY)=true:=rfl
theorem iki:(aeW==aeW)=true:=rfl
def XX (x:Ins):Bool:=decide (0≤x.results∧x.results≤1)
structure Fit (l:List Ins) (c k:Nat):Prop where
 res:zR XX l=true
 wf:F0 l
 tag:mL l≤1000000000
 num:c+cN l≤1000000000
 dep:k+gy 1 l≤1000
section
variable {X:Lx} {V:jH} {ll:List Ins}
theorem pg (o:List Fr) (t:Fr) (d:Bool):bt (o++[⟨t.op,t.base,t.res,d⟩])=bt (o++[t]):=by simp[bt]
def CL (X:Lx) (V:jH) (l:List Ins):Prop:= ∀(R:Rw) (o:List Fr) (t:Fr) (n c:Nat),Fit l c (o.length+1)→dP R o t n c → ∃R',cQ X 84 [aL l] R R'∧dj o t R' (eV V (bt (o++[t])) l n t.dead c)
def CI (X:Lx) (V:jH) (o:List Fr) (t:Fr) (x:Ins):Prop:= ∀(R:Rw) (d:Bool) (n c:Nat),c+mK x≤1000000001→dP R o ⟨t.op,t.base,t.res,d⟩ n c→R.h+1≤c → ∃R',cQ X 116 [QL x,sI .i64 c] R R'∧dj o t R' (mT V (bt (o++[t])) x n d c)
theorem Py {R:Rw} (he:R.e≠0) (l:List Ins) (hl:l.length≤1000000000):cQ X 84 [aL l] R R:=by
 refine an.settle (l0:=X.M.cells++[sI .i64 X.tP,sI .i64 X.tR,sI .u64 X.own,sI .i64 R.h,.ms 1 0 R.k 4 none,sI .i64 R.e,sI .i64 R.p,sI .i64 R.nx]) ?_ (bx 2)
 refine af aM (yT X R R R R R R R R l) ?_
 simp only[vL,az.ok,aC]
 have e0:(R.e != 0)=true:=by simpa using he
 cases l with
 |nil=>
  refine aj aM (sx X R R R R R R R R [] 0 0 0 0 0 0 [] [] []) ?_
  simp only[sw,jO,bF,az.ok,aC,ab4]
  exact⟨fun h=>absurd h (by decide),fun _=>trivial⟩
 |cons x r=>
  obtain⟨op,rs,a,b,nn,tg,ll,le⟩:=x
  have hg:(Ins.mk op rs a b nn tg ll le::r)[0]? = some (.mk op rs a b nn tg ll le):=rfl
  obtain⟨c0,c1,c2,c3,c4,c5,c6,c7⟩:=rQ hg
  refine aj aM (sx X R R R R R R R R (.mk op rs a b nn tg ll le::r) 0 op rs a b nn tg ll le) ?_
  have g1:decide (((0:Nat):Int)<((Ins.mk op rs a b nn tg ll le::r).length:Int))=true:=by simp
  simp only[sw,jO,bF,az.ok,aC,g1,e0,acy,fi,aca,c0,c1,c2,c3,c4,c5,c6,c7,isInt,bB,av,aE,bC,aB,aW,ik,iku,iki,ae5,false_implies,true_implies,true_and,and_true,aeq,c8,decide_eq_true_eq]
  exact⟨by omega,rfl⟩
theorem Kz {o:List Fr} {t:Fr} {xs:List Ins} (hx:xs.length≤1000000000) (IH : ∀x∈xs,CI X V o t x) :
  ∀(m i:Nat),i+m=xs.length → ∀(R:Rw) (v:VR),dj o t R v→(∀n d c,v = .ok n d c→c+cN (xs.drop i)≤1000000000) →
   ∃R',cO acb env (ak acb env 84 0 [.mp 0 0,aL xs,sI .i64 xs.length,sI .i64 i] (lC X R) 2 32) (.ret (.au []) (lC X R'))∧dj o t R' (v.and fun n d c=>eV V (bt (o++[t])) (xs.drop i) n d c):=by
 intro m
 induction m with
 |zero=>
  intro i hi R v hv _
  refine⟨R,aj aM (yU X R R R R R R R R xs i 0 0 0 0 0 [] [] []) ?_,?_⟩
  · have g1:decide ((i:Int)<(xs.length:Int))=false:=by simp;omega
    simp only[vN,lZ,bF,az.ok,aC,g1,pb,false_implies,true_implies,true_and]
  · rw[List.drop_eq_nil_of_le (by omega)]
    cases v with
    |bw e q=>exact hv
    |ok n d c=>exact hv
 |succ m ih=>
  intro i hi R v hv hb
  have hlt:i<xs.length:=by omega
  have U0:xs[i]? = some xs[i]:=cb hlt
  have hdr:xs.drop i=xs[i]::xs.drop (i+1):=List.drop_eq_getElem_cons hlt
  have hmem:xs[i]∈xs:=ed hlt
  generalize xs[i]=x at *
  have WT:=IH x hmem
  obtain⟨op,rs,a,b,nn,tg,ll,le⟩:=x
  obtain⟨c0,c1,c2,c3,c4,c5,c6,c7⟩:=rQ U0
  have g1:decide ((i:Int)<(xs.length:Int))=true:=by simp;omega
  have w1:sb.wrap ((i:Int)+1)=((i+1:Nat):Int):=by rw[aN (by omega) (by omega)];rfl
  cases v with
  |bw e q=>
   have e0:(R.e != 0)=true:=by rw[hv.1];simpa using hv.2.1
   refine⟨R,aj aM (yU X R R R R R R R R xs i op rs a b nn tg ll le) ?_,hv⟩
   simp only[vN,lZ,bF,az.ok,aC,g1,e0,acy,fi,aca,c0,c1,c2,c3,c4,c5,c6,c7,isInt,bB,av,aE,bC,aB,aW,ik,iku,iki,ae5,false_implies,true_implies,true_and,and_true,aeq,c8,decide_eq_true_eq]
   exact⟨by omega,rfl⟩
  |ok n d c=>
   have Tz:=hb n d c rfl
   rw[hdr] at Tz
   have hn1:1≤mK (.mk op rs a b nn tg ll le):=by simp only[mK];omega
   simp only[cN] at Tz
   have hg:dP ⟨R.h,R.k,R.cs,R.e,R.p,R.nx+1⟩ o ⟨t.op,t.base,t.res,d⟩ n (c+1):=by
    obtain⟨⟨q1,q2,q3,q4⟩,q5,q6,q8,q7⟩:=hv
    exact⟨⟨q1,q2,q3,q4⟩,q5,by simp only;omega,q8,by simp only;omega⟩
   obtain⟨R1,r1,a1⟩:=WT _ d n (c+1) (by omega) hg (by have:=hv.le;simp only;omega)
   obtain⟨R',gR,aR⟩:=ih (i+1) (by omega) R1 _ a1 (fun n' d' c' TD=>by
    have:=qB V _ _ _ _ _ _ _ _ TD
    omega)
   refine⟨R',aj aM (yU X R R1 R R R R R R xs i op rs a b nn tg ll le) ?_,?_⟩
   · have e0:(R.e != 0)=false:=by have:=hv.e;simp[this]
     have P0:R.nx=(c:Int):=hv.nx
     have w2:sb.wrap (R.nx+1)=R.nx+1:=aN (by omega) (by omega)
     have T2:((c+1:Nat):Int)=R.nx+1:=by omega
     rw[T2] at r1
     simp only[vN,lZ,bF,az.ok,aC,g1,e0,w1,w2,acy,fi,aca,c0,c1,c2,c3,c4,c5,c6,c7,isInt,bB,av,aE,bC,aB,aW,ik,iku,iki,pb,ae5,false_implies,true_implies,true_and,and_true,aeq,c8,decide_eq_true_eq]
     exact⟨by omega,rfl,r1,gR⟩
   · rw[hdr]
     show dj o t R' (eV V (bt (o++[t])) (.mk op rs a b nn tg ll le::xs.drop (i+1)) n d c)
     rw[Bv]
     exact aR
theorem Tf {o:List Fr} {t:Fr} {xs:List Ins} (hx:xs.length≤1000000000) (IH : ∀x∈xs,CI X V o t x) {R:Rw} {n c:Nat} (hc:c+cN xs≤1000000000) (g:dP R o t n c) :
  ∃R',cQ X 84 [aL xs] R R'∧dj o t R' (eV V (bt (o++[t])) xs n t.dead c):=by
 cases xs with
 |nil=>
  refine⟨R,?_,by simp only[eV];exact g⟩
  refine an.settle (l0:=X.M.cells++[sI .i64 X.tP,sI .i64 X.tR,sI .u64 X.own,sI .i64 R.h,.ms 1 0 R.k 4 none,sI .i64 R.e,sI .i64 R.p,sI .i64 R.nx]) ?_ (bx 2)
  refine af aM (yT X R R R R R R R R []) ?_
  simp only[vL,az.ok,aC]
  refine aj aM (sx X R R R R R R R R [] 0 0 0 0 0 0 [] [] []) ?_
  simp only[sw,jO,bF,az.ok,aC,ab4]
  exact⟨fun h=>absurd h (by decide),fun _=>trivial⟩
 |cons x r=>
  have WT:=IH x (by simp)
  obtain⟨op,rs,a,b,nn,tg,ll,le⟩:=x
  have hn1:1≤mK (.mk op rs a b nn tg ll le):=by simp only[mK];omega
  simp only[cN] at hc
  have U0:(Ins.mk op rs a b nn tg ll le::r)[0]? = some (.mk op rs a b nn tg ll le):=rfl
  obtain⟨c0,c1,c2,c3,c4,c5,c6,c7⟩:=rQ U0
  have hg:dP ⟨R.h,R.k,R.cs,R.e,R.p,R.nx+1⟩ o ⟨t.op,t.base,t.res,t.dead⟩ n (c+1):=by
   obtain⟨⟨q1,q2,q3,q4⟩,q5,q6,q8,q7⟩:=g
   exact⟨⟨q1,q2,q3,q4⟩,q5,by simp only;omega,q8,by simp only;omega⟩
  obtain⟨R1,r1,a1⟩:=WT _ t.dead n (c+1) (by omega) hg (by have:=g.le;simp only;omega)
  obtain⟨R',gR,aR⟩:=Kz (V:=V) hx IH r.length 1 (by simp;omega) R1 _ a1 (fun n' d' c' TD=>by
   have:=qB V _ _ _ _ _ _ _ _ TD
   simp only[List.drop_succ_cons,List.drop_zero]
   omega)
  refine⟨R',af aM (yT X R R R R R R R R _) ?_,?_⟩
  · simp only[vL,az.ok,aC]
    refine aj aM (sx X R R1 R R R R R R (.mk op rs a b nn tg ll le::r) 0 op rs a b nn tg ll le) ?_
    have g1:decide (((0:Nat):Int)<((Ins.mk op rs a b nn tg ll le::r).length:Int))=true:=by simp
    have e0:(R.e != 0)=false:=by have:=g.e;simp[this]
    have P0:R.nx=(c:Int):=g.nx
    have w2:sb.wrap (R.nx+1)=R.nx+1:=aN (by omega) (by omega)
    have T2:((c+1:Nat):Int)=R.nx+1:=by omega
    rw[T2] at r1
    simp only[sw,jO,bF,az.ok,aC,g1,e0,w2,acy,fi,aca,c0,c1,c2,c3,c4,c5,c6,c7,isInt,bB,av,aE,bC,aB,aW,ik,iku,iki,pb,ae5,false_implies,true_implies,true_and,and_true,aeq,c8,decide_eq_true_eq]
    exact⟨by omega,rfl,r1,rfl,gR⟩
  · rw[Bv]
    exact aR
theorem kD {o:List Fr} {t:Fr} {d:Bool} {R:Rw} {v:VR} (h:dj o ⟨t.op,t.base,t.res,d⟩ R v):dj o t R v:=by
 cases v with
 |bw e q=>exact h
 |ok n d c=>exact h
theorem tY (Lm:CL X V ll) {R:Rw} {o:List Fr} {t:Fr} {n c:Nat} (g:dP R o t n c) {op r:Int} (q:Nat) (hop:op=2∨op=3∨op=4∨op=5) (hr:0≤r) (HB:r≤1) (hh:R.h+1≤c)
  (hfit:Fit ll c (o.length+2)) : ∃R1 R2 R3,cQ X 156 [sI .i64 op,sI .i64 r,sI .i64 q] R R1∧an acb env 156 [.mp 0 0,sI .i64 op,sI .i64 r,sI .i64 q] (eK X R) (.au []) [aV X.M X.tP X.tR X.own R1.h 2 R1.k R1.e R1.p R1.nx,dc R.cs,dc R1.cs] ∧
    cQ X 84 [aL ll] R1 R2∧cQ X 85 [sI .i64 q] R2 R3∧dj o t R3 ((eV V ((if op=3 then 0 else r.toNat)::bt (o++[t])) ll 0 false c).and fun n1 d1 c1=>gM r.toNat n1 d1 q (.ok (n+r.toNat) t.dead c1)):=by
 have hd:=hfit.dep
 obtain⟨R1,r1,k1,g1⟩:=Kp (X:=X) g q hop hr HB (by omega)
 obtain⟨R2,r2,a2⟩:=Lm R1 (o++[t]) ⟨op,R.h,r,false⟩ 0 c (by rw[List.length_append];exact hfit) g1
 rw[Pc] at a2
 dsimp only at a2
 cases hv:eV V ((if op=3 then 0 else r.toNat)::bt (o++[t])) ll 0 false c with
 |bw e p=>
  rw[hv] at a2
  have hb:R2.e≠0:=by rw[a2.1];exact a2.2.1
  exact⟨R1,R2,R2,r1,k1,r2,Xz hb,a2⟩
 |ok n1 d1 c1=>
  rw[hv] at a2
  have gP:=iM V _ _ _ _ _ _ _ _ hv
  have abq:=hfit.num
  obtain⟨R3,r3,a3⟩:=Kq (X:=X) (s:=t) a2 q (by simp only;omega) (by omega)
  refine⟨R1,R2,R3,r1,k1,r2,r3,?_⟩
  have hn:(R.h-t.base).toNat=n:=by have:=g.h;omega
  simp only[hn] at a3
  exact a3
end
end Go.Proofs.YtdmmllcjgjmbbaaGreatDoor.N
end
section
set_option linter.unusedSimpArgs false
set_option linter.unusedVariables false
namespace Go.Proofs.YtdmmllcjgjmbbaaGreatDoor.N
open Go Go.Am
theorem I8 {p:Ins→Bool} : ∀{l:List Ins},zR p l=true → ∀x∈l,QK p x=true
 |[],_,_,hx=>by cases hx
 |y::r,h,x,hx=>by
  simp only[zR,c8] at h
  cases hx with
  |head=>exact h.1
  |tail _ hx=>exact I8 h.2 x hx
theorem rN : ∀{l:List Ins},F0 l → ∀x∈l,QJ x
 |[],_,_,hx=>by cases hx
 |y::r,h,x,hx=>by
  simp only[F0] at h
  cases hx with
  |head=>exact h.1
  |tail _ hx=>exact rN h.2 x hx
theorem E7 : ∀{l:List Ins},∀x∈l,F2 x≤mL l
 |[],_,hx=>by cases hx
 |y::r,x,hx=>by
  simp only[mL]
  cases hx with
  |head=>omega
  |tail _ hx=>have:=E7 x hx;omega
theorem E8 {d:Nat} : ∀{l:List Ins},∀x∈l,zS d x≤gy d l
 |[],_,hx=>by cases hx
 |y::r,x,hx=>by
  simp only[gy]
  cases hx with
  |head=>omega
  |tail _ hx=>have:=E8 (d:=d) x hx;omega
theorem I9 (l:List Ins):gy 1 l+1≤max 1 (gy 2 l):=by
 by_cases h:l=[]
 · subst h;simp[gy]
 · have h2:gy 2 l=gy 1 l+1:=mM 1 l h
   omega
theorem Pz {r n q a x:Nat} {d b:Bool} {f:VR}:gM r n d q f=(gM r n d q (.ok a b x)).and fun _ _ _=>f:=by
 unfold gM dF
 split
 · rfl
 · dsimp only
   split<;>rfl
theorem Tg {v:VR} {F G:Nat→Bool→Nat→VR}:(v.and F).and G=v.and fun n d c=>(F n d c).and G:=by cases v<;>rfl
section
variable {X:Lx} {V:jH}
theorem KA (hv:TU X V) {o:List Fr} {t:Fr} (x:Ins) (hl:CL X V x.l) (he:CL X V x.e) (hok:QK XX x=true) (hwf:QJ x) (aeo:F2 x≤1000000000) (aep:o.length+1+zS 1 x≤1000):CI X V o t x:=by
 obtain⟨op,r,a,b,nn,tg,ll,le⟩:=x
 intro R d n c abq g hh
 simp only[Ins.l,Ins.e] at hl he
 simp only[QK,c8] at hok
 obtain⟨hres,aer,aes⟩:=hok
 obtain⟨hr0,HB⟩:0≤r∧r≤1:=of_decide_eq_true hres
 simp only[QJ] at hwf
 obtain⟨_,_,wa,_,_,⟨wt1,wt2⟩,⟨_,wl⟩,_,we⟩:=hwf
 simp only[F2] at aeo
 simp only[zS,aca] at aep
 simp only[mK] at abq
 have ha:=TK wa
 have TM : ∀x∈tg,0≤x∧x<4294967296:=fun x hx=>by have:=TK (wt2 x hx);omega
 have d1:=I9 ll
 have d2:=I9 le
 have Th:=pg o t d
 have abr:Fit ll c (o.length+2):=⟨aer,wl,by omega,by omega,by omega⟩
 show ∃R',cQ X 116 [dO op r a b nn tg ll le,sI .i64 c] R R'∧dj o t R' (mT V (bt (o++[t])) (.mk op r a b nn tg ll le) n d c)
 by_cases o0:op=0
 · subst o0
   obtain⟨R1,r1,a1,_⟩:=EX (X:=X) g c
   refine⟨R1,Pg r1,?_⟩
   simp only[mT,if_true]
   exact a1
 by_cases TS:op=2∨op=3
 · obtain⟨R1,R2,R3,r1,_,r2,r3,a3⟩:=tY hl g (op:=op) (r:=r) c (by omega) hr0 HB hh abr
   refine⟨R3,pe (by omega) (XJ (by omega) r1 r2 r3),?_⟩
   rw[Th] at a3
   have e1:mT V (bt (o++[t])) (.mk op r a b nn tg ll le) n d c=(eV V ((if op=3 then 0 else r.toNat)::bt (o++[t])) ll 0 false c).and fun n1 d1 c1=>gM r.toNat n1 d1 c (.ok (n+r.toNat) d c1):=by
    simp only[mT]
    rw[if_neg o0,if_pos TS]
    cases eV V ((if op=3 then 0 else r.toNat)::bt (o++[t])) ll 0 false c<;>rfl
   rw[e1]
   exact kD a3
 by_cases o4:op=4
 · subst o4
   obtain⟨R1,r1,a1,h1,x1⟩:=o9 (X:=X) g 1 c
   have e1:mT V (bt (o++[t])) (.mk 4 r a b nn tg ll le) n d c=(dF c 1 n d fun m=> .ok m d c).and fun n0 _ _=>(eV V (r.toNat::bt (o++[t])) ll 0 false c).and fun n1 d1 c1=>
    gM r.toNat n1 d1 c ((eV V (r.toNat::bt (o++[t])) le 0 false c1).and fun n2 d2 c2=>gM r.toNat n2 d2 c (.ok (n0+r.toNat) d c2)):=by
    simp only[mT]
    rw[if_neg o0,if_neg TS,if_true,l7]
    congr 1
   rw[e1]
   have abt : ∀n0 d0 c0,(dF c 1 n d fun m=> .ok m d c) = .ok n0 d0 c0→d0=d∧c0=c:=fun n0 d0 c0 hp=>by
    obtain⟨m,hm⟩:=gh (c:=0) hp
    cases hm;exact⟨rfl,rfl⟩
   dsimp only at a1
   generalize hvp:(dF c 1 n d fun m=>VR.ok m d c)=vp at a1 abt
   cases vp with
   |bw e q=>
    have hb:R1.e≠0:=by rw[a1.1];exact a1.2.1
    exact⟨R1,pe (by omega) (XK hb r1 (aed hb) (Py hb ll (by have:=kS ll;omega)) (Xz hb)),a1⟩
   |ok n0 d0 c0=>
    obtain⟨rfl,rfl⟩:=abt _ _ _ rfl
    have P0:=g.nx
    obtain⟨R2,R3,R4,r2,k2,r3,r4,a4⟩:=tY hl a1 (op:=4) (r:=r) c0 (by omega) hr0 HB (by omega) abr
    rw[pg,pg,if_neg (by decide)] at a4
    simp only[VR.and]
    show ∃R',_∧dj o t R' ((eV V (r.toNat::bt (o++[t])) ll 0 false c0).and fun n1 d1 c1=>gM r.toNat n1 d1 c0 ((eV V (r.toNat::bt (o++[t])) le 0 false c1).and fun n2 d2 c2=>gM r.toNat n2 d2 c0 (.ok (n0+r.toNat) d0 c2)))
    have e2:((eV V (r.toNat::bt (o++[t])) ll 0 false c0).and fun n1 d1 c1=>gM r.toNat n1 d1 c0 ((eV V (r.toNat::bt (o++[t])) le 0 false c1).and fun n2 d2 c2=>gM r.toNat n2 d2 c0 (.ok (n0+r.toNat) d0 c2))) =
     ((eV V (r.toNat::bt (o++[t])) ll 0 false c0).and fun n1 d1 c1=>gM r.toNat n1 d1 c0 (.ok (n0+r.toNat) d0 c1)).and fun _ _ c1=>(eV V (r.toNat::bt (o++[t])) le 0 false c1).and fun n2 d2 c2=>gM r.toNat n2 d2 c0 (.ok (n0+r.toNat) d0 c2):=by
     rw[Tg]
     cases eV V (r.toNat::bt (o++[t])) ll 0 false c0 with
     |bw e q=>rfl
     |ok n1 d1 c1=>
      simp only[VR.and]
      rw[Pz (a:=n0+r.toNat) (b:=d0) (x:=c1)]
      unfold gM dF
      split
      · rfl
      · dsimp only
        split<;>rfl
    rw[e2]
    have hc4 : ∀n4 d4 c4,((eV V (r.toNat::bt (o++[t])) ll 0 false c0).and fun n1 d1 c1=>gM r.toNat n1 d1 c0 (.ok (n0+r.toNat) d0 c1)) = .ok n4 d4 c4→c0≤c4∧c4≤c0+cN ll:=by
     intro n4 d4 c4 h4
     cases hvl:eV V (r.toNat::bt (o++[t])) ll 0 false c0 with
     |bw e q=>rw[hvl] at h4;cases h4
     |ok n1 d1 c1=>
      rw[hvl] at h4
      have:=vP h4
      cases this
      exact iM V _ _ _ _ _ _ _ _ hvl
    have a4:=kD a4
    generalize hv4:((eV V (r.toNat::bt (o++[t])) ll 0 false c0).and fun n1 d1 c1=>gM r.toNat n1 d1 c0 (.ok (n0+r.toNat) d0 c1))=v4 at a4 hc4
    have XY:dj o t R4 v4:=by
     rw[←hv4];rw[←hv4] at a4;exact kD a4
    cases v4 with
    |bw e q=>
     have hb:R4.e≠0:=by rw[XY.1];exact XY.2.1
     exact⟨R4,pe (by omega) (Pk (R5:=R4) (R6:=R4) r1 k2 r3 r4 (fun _=>rfl) (fun h=>absurd h hb) (fun h=>absurd h hb) (fun h=>absurd h hb)),XY⟩
    |ok n4 d4 c4=>
     obtain⟨agZ,ag0⟩:=hc4 _ _ _ rfl
     have gS:dP ⟨R1.h,R1.k,R1.cs,R4.e,R4.p,R4.nx⟩ o ⟨t.op,t.base,t.res,d0⟩ n0 c4:=⟨⟨a1.h,a1.k,a1.cs,a1.ok⟩,XY.e,XY.nx,XY.p0,by have:=a1.le;simp only;omega⟩
     obtain⟨R5,R6,R7,r5,_,r6,r7,a7⟩:=tY he gS (op:=5) (r:=r) c0 (by omega) hr0 HB (by simp only;omega) ⟨aes,we,by omega,by omega,by omega⟩
     rw[pg,if_neg (by decide)] at a7
     exact⟨R7,pe (by omega) (Pk r1 k2 r3 r4 (fun h=>absurd XY.e h) (fun _=>r5) (fun _=>r6) (fun _=>r7)),kD a7⟩
 have e0:mT V (bt (o++[t])) (.mk op r a b nn tg ll le) n d c=gj V (bt (o++[t])) op a tg n d c:=by
  simp only[mT]
  rw[if_neg o0,if_neg TS,if_neg o4]
 rw[e0,←Th]
 obtain⟨a,rfl⟩:=Int.eq_ofNat_of_zero_le ha.1
 have ha':a<4294967296:=by omega
 have hc9:c≤1000000000:=by omega
 have fin : ∀{R':Rw} {v:VR},cQ X 116 [dO op r a b nn tg ll le,sI .i64 c] R R'∧dj o ⟨t.op,t.base,t.res,d⟩ R' v→cQ X 116 [dO op r a b nn tg ll le,sI .i64 c] R R'∧dj o t R' v:=fun h=>⟨h.1,kD h.2⟩
 by_cases o12:op=12
 · subst o12
   obtain⟨R',h⟩:=XV (V:=V) (r:=r) (b:=b) (nn:=nn) (tg:=tg) (ll:=ll) (le:=le) g a ha'
   exact⟨R',fin h⟩
 by_cases o13:op=13
 · subst o13
   obtain⟨R',h⟩:=Pq (V:=V) (r:=r) (b:=b) (nn:=nn) (tg:=tg) (ll:=ll) (le:=le) g hh hc9 a ha'
   exact⟨R',fin h⟩
 by_cases o14:op=14
 · subst o14
   obtain⟨R',h1,h2⟩:=Ky (V:=V) (r:=r) (a:=a) (b:=b) (nn:=nn) (tg:=tg) (ll:=ll) (le:=le) g ⟨by omega,by omega⟩ TM (by omega)
   exact⟨R',fin ⟨Kt h1,h2⟩⟩
 by_cases o15:op=15
 · subst o15
   obtain⟨R',h⟩:=S7 (r:=r) (b:=b) (nn:=nn) (tg:=tg) (ll:=ll) (le:=le) hv g a
   exact⟨R',fin h⟩
 by_cases o16:op=16
 · subst o16
   obtain⟨R',h⟩:=Pr (r:=r) (b:=b) (nn:=nn) (tg:=tg) (ll:=ll) (le:=le) hv g hh hc9 a ha'
   exact⟨R',fin h⟩
 by_cases o17:op=17
 · subst o17
   obtain⟨R',h⟩:=S8 (r:=r) (b:=b) (nn:=nn) (tg:=tg) (ll:=ll) (le:=le) hv g hh hc9 a ha'
   exact⟨R',fin h⟩
 · obtain⟨R',h1,h2⟩:=Kv (r:=r) (b:=b) (nn:=nn) (tg:=tg) (ll:=ll) (le:=le) hv g hh hc9 (op:=op) ha'
   refine⟨R',fin ⟨Ku (by omega) h1,?_⟩⟩
   have e1:gj V (bt (o++[⟨t.op,t.base,t.res,d⟩])) op a tg n d c=if dG V op a≠0 then .bw (dG V op a) c else dF c (lu op) n d fun n1=> .ok (n1+jt op) d c:=by
    unfold gj
    rw[if_neg o12,if_neg o13,if_neg o14,if_neg o15,if_neg o16,if_neg o17]
   rw[e1]
   exact h2
theorem PA (hv:TU X V) : ∀l:List Ins,CL X V l:=by
 refine QV fun l hl=> ?_
 intro R o t n c hf g
 refine Tf (V:=V) (by have:=kS l;have:=hf.num;omega) (fun x hx=> ?_) hf.num g
 obtain⟨h1,h2⟩:=hl x hx
 have:=hf.tag
 have:=hf.dep
 have ht:=E7 x hx
 have hd:=E8 (d:=1) x hx
 exact KA hv x h1 h2 (I8 hf.res x hx) (rN hf.wf x hx) (by omega) (by omega)
end
end Go.Proofs.YtdmmllcjgjmbbaaGreatDoor.N
end
section
set_option linter.unusedSimpArgs false
set_option linter.unusedVariables false
namespace Go.Proofs.YtdmmllcjgjmbbaaGreatDoor.N
open Go Go.Am
def aeu (X:Lx) (n:Nat) (P Q lo:Int) (l:List Ins) (R1 R2:Rw) (f:FuncId) (_:List AV) (m:Mem):Option (AV×Mem):=cond (ae f 8) (some (.au [.agg [sI .i64 X.tP,sI .i64 X.tR],sB true],m)) (cond (ae f 84) (some (.au [],lC X R1)) (cond (ae f 85) (some (.au [],lC X R2)) none))
def loS (X:Lx) (n:Nat) (P Q lo:Int) (l:List Ins) (R1 R2:Rw):FuncId→Nat→Nat→Option (AV→AV):=cM [(40,7,5,.agg [sI .i64 lo,aL l]),(40,8,8,sI .u64 X.own)]
def XZ (X:Lx) (n:Nat) (P Q lo:Int) (l:List Ins) (R1:Rw) (R2:Rw):bH:=gx (aeu X n P Q lo l R1 R2) aA [] [(40,0,0),(83,2,3),(83,0,0)] [(40,7,3),(40,7,5)] (loS X n P Q lo l R1 R2)
def abu:Sc:=(.fork .fin (.fork (.lit .fin) .fin))
def tZ (X:Lx) (R1:Rw) (R2:Rw):az:=
 (.call ⟨85,[.mp 0 0,sI .i64 0],[.ac (qy X.M++[sI .i64 X.tP,sI .i64 X.tR,sI .u64 X.own,sI .i64 R1.h,.ms 1 0 R1.k 4 none,sI .i64 R1.e,sI .i64 R1.p,sI .i64 R1.nx]),.ob (aD.gr 160 true) (ab6 aa (ab6 aa (ab6 AV.p R1.cs)))],.au [],[.ac (qy X.M++[sI .i64 X.tP,sI .i64 X.tR,sI .u64 X.own,sI .i64 R2.h,.ms 2 0 R2.k 4 none,sI .i64 R2.e,sI .i64 R2.p,sI .i64 R2.nx]),.dead,.ob (aD.gr 160 true) (ab6 AV.p R2.cs)]⟩ (.out (.ret (.au [sI .i64 R2.e,sI .i64 R2.p]) [])))
def uc (X:Lx) (l:List Ins) (R1:Rw) (R2:Rw):az:=
 (.call ⟨84,[.mp 0 0,.p (.ps l.length 8 (aq l))],[.ac (qy X.M++[sI .i64 X.tP,sI .i64 X.tR,sI .u64 X.own,sI .i64 0,xQ,sI .i64 0,sI .i64 0,sI .i64 0])],.au [],[.ac (qy X.M++[sI .i64 X.tP,sI .i64 X.tR,sI .u64 X.own,sI .i64 R1.h,.ms 2 0 R1.k 4 none,sI .i64 R1.e,sI .i64 R1.p,sI .i64 R1.nx]),.dead,.ob (aD.gr 160 true) (ab6 AV.p R1.cs)]⟩ (tZ X R1 R2))
def Ja (X:Lx) (n:Nat) (P Q lo:Int) (l:List Ins) (R1:Rw) (R2:Rw):az:=
 (.test (decide ((↑n:Int)≥(↑X.M.vJ:Int)))
 (.out (.ret (.au [sI .i64 6,sI .i64 0]) []))
 (.call ⟨8,[.agg X.M.cells,sI .u32 (abY.wrap (sb.wrap ((↑X.M.uV:Int)+(↑n:Int))))],[],.au [.agg [sI .i64 X.tP,sI .i64 X.tR],sB true],[]⟩
 (.must (aW (↑n:Int) X.M.vJ&&true&&true)
 (.must (isInt sb (aF X.M.tT (aJ n*3+1))&&(bB (aF X.M.tT (aJ n*3+1+1))&&true)&&true)
 (.need (AV.agg [sI .i64 (av (aF X.M.tT (aJ n*3+1))),AV.p (PV.ps (aE (aF X.M.tT (aJ n*3+1+1))) (bC (aF X.M.tT (aJ n*3+1+1))) (aB (aF X.M.tT (aJ n*3+1+1))))]=AV.agg [sI sb lo,aL l])
 (.need (sI .u64 (ae6.wrap (ae6.wrap X.tP+ae6.wrap lo))=sI ae6 X.own)
 (.test (decide (X.tR<0))
 (uc X l R1 R2)
 (.test (decide (X.tR>1))
 (uc X l R1 R2)
 (.call ⟨84,[.mp 0 0,.p (.ps l.length 8 (aq l))],[.ac (qy X.M++[sI .i64 X.tP,sI .i64 X.tR,sI .u64 X.own,sI .i64 0,.ms 1 0 1 4 none,sI .i64 0,sI .i64 0,sI .i64 0]),.ob (aD.gr 160 true) [sI .i64 0,sI .i64 0,sI .i64 X.tR,sB false]],.au [],[.ac (qy X.M++[sI .i64 X.tP,sI .i64 X.tR,sI .u64 X.own,sI .i64 R1.h,.ms 2 0 R1.k 4 none,sI .i64 R1.e,sI .i64 R1.p,sI .i64 R1.nx]),.dead,.ob (aD.gr 160 true) (ab6 AV.p R1.cs)]⟩
 (tZ X R1 R2))))))))))
theorem PB (X:Lx) (n:Nat) (P Q lo:Int) (l:List Ins) (R1:Rw) (R2:Rw):aG acb env (XZ X n P Q lo l R1 R2) 1000000 40 ([AV.agg X.M.cells,sI sb (↑n:Int)]) ([]) abu=Ja X n P Q lo l R1 R2:=by kernel_rfl
theorem KB {X:Lx} {V:jH} (hv:TU X V) {n:Nat} {lo:Int} {l:List Ins} (hn:n<X.M.vJ) (hf:X.M.vJ≤1000000000) (hi:X.M.uV≤1000000000) (hlo:X.M.tT.getD (n*3+1) .bw = .sc (.int .i64 lo)) (hl:X.M.tT.getD (n*3+2) .bw = .ps l.length 8 (aq l))
  (hp:0≤X.tP∧X.tP≤1000000) (ag2:0≤lo∧lo≤1000000) (how:X.own=X.tP+lo) (hty:an acb env 8 [.agg X.M.cells,sI .u32 (X.M.uV+n:Nat)] [] (.au [.agg [sI .i64 X.tP,sI .i64 X.tR],sB true]) [])
  (hfit:Fit l 0 1):an acb env 40 [.agg X.M.cells,sI .i64 n] [] (.au [sI .i64 (kW V l).1,sI .i64 ((kW V l).2:Nat)]) []:=by
 have aev:=hv.ret
 have afy:=hv.abn
 have g0:dP ⟨0,1,frC 0 0 X.tR false,0,0,0⟩ [] ⟨0,0,X.tR,false⟩ 0 0:=by
  refine⟨⟨rfl,rfl,⟨[],rfl⟩,?_⟩,rfl,rfl,rfl,by simp⟩
  exact⟨rfl,rfl,by simp only;omega,by simp only;omega,trivial,by simp,by simp,by simp⟩
 obtain⟨R1,r1,a1⟩:=PA hv l _ [] ⟨0,0,X.tR,false⟩ 0 0 hfit g0
 have Th:bt ([]++[(⟨0,0,X.tR,false⟩:Fr)])=[V.ret]:=by simp[bt,aev]
 rw[Th] at a1
 have hres:X.tR.toNat=V.ret:=by omega
 have key : ∃R2,cQ X 85 [sI .i64 (0:Nat)] R1 R2∧R2.e=(kW V l).1∧R2.p=((kW V l).2:Nat):=by
  unfold kW
  dsimp only at a1
  cases hvl:eV V [V.ret] l 0 false 0 with
  |bw e p=>
   rw[hvl] at a1
   exact⟨R1,Xz (by rw[a1.1];exact a1.2.1),a1.1,a1.2.2⟩
  |ok m d c=>
   rw[hvl] at a1
   obtain⟨R2,r2,h2⟩:=Kr (X:=X) a1 0
   refine⟨R2,r2,?_⟩
   simp only[hres] at h2
   have hp0:=a1.p0
   cases zI:gM V.ret m d 0 (.ok 0 false 0) with
   |bw e p=>rw[zI] at h2;dsimp only;rw[zI];exact h2
   |ok m' d' c'=>rw[zI] at h2;dsimp only;rw[zI];exact⟨h2.1,by rw[h2.2,hp0];rfl⟩
 obtain⟨R2,r2,e2,p2⟩:=key
 rw[←e2,←p2]
 refine af aM (PB X n X.tP X.tR lo l R1 R2) ?_
 have w1:sb.wrap ((X.M.uV:Int)+n)=((X.M.uV+n:Nat):Int):=by rw[aN (by omega) (by omega)];omega
 have w2:abY.wrap ((X.M.uV+n:Nat):Int)=((X.M.uV+n:Nat):Int):=TL (by omega) (by omega)
 have w3:ae6.wrap X.tP=X.tP:=jw (by omega) (by omega)
 have w4:ae6.wrap lo=lo:=jw (by omega) (by omega)
 have w5:ae6.wrap (X.tP+lo)=X.own:=by rw[jw (by omega) (by omega),how]
 have g1:decide ((n:Int)≥(X.M.vJ:Int))=false:=by simp;omega
 have g2:decide (X.tR<0)=false:=by simp;omega
 have g3:decide (X.tR>1)=false:=by simp;omega
 simp only[Ja,tZ,uc,bF,az.ok,aC,w1,w2,w3,w4,w5,g1,g2,g3,acy,fi,aca,hlo,hl,isInt,bB,av,aE,bC,aB,ik,aW,pb,ae5,false_implies,true_implies,true_and,and_true,aeq,c8,decide_eq_true_eq]
 exact⟨hty,by omega,r1,r2⟩
end Go.Proofs.YtdmmllcjgjmbbaaGreatDoor.N
end
section
set_option linter.unusedSimpArgs false
set_option linter.unusedVariables false
set_option linter.unusedSectionVars false
namespace Go.Proofs.YtdmmllcjgjmbbaaGreatDoor.N
open Go Go.Am
def voC (M:Mo) (s e n i a:Int) (f:FuncId) (args:List AV) (m:Mem):Option (AV×Mem):=cond (ae f 90||ae f 95) (some (.agg [sI .i64 e,sI .i64 n,sI .i64 i,sI .i64 a],m)) none
def vlC (f:FuncId) (_:List AV) (m:Mem):Option (AV×Mem):=cond (ae f 8) (some (.au [.agg [sI .i64 0,sI .i64 0],sB false],m)) none
def abv (M:Mo) (s e n i a:Int):bH:=aT (voC M s e n i a) aA [] [(43,0,0),(43,0,1),(43,0,2),(43,0,3),(43,0,4),(43,0,5),(43,0,6),(43,0,7),(43,0,8)] []
def aew:Sc:= .fin
def cV (e n i a:Int):az:=
 (.out (.ret (.agg [sI .i64 e,sI .i64 n,sI .i64 i,sI .i64 a]) []))
def ju (M:Mo) (s e n i a:Int):az:=
 (.test (s==2)
 (.call ⟨90,[sI .i64 2,sI .i64 (↑M.aQ.length:Int),.fn (acm 91) [] [.mp 0 0,.mp 1 0]],[.ac [.fn (acm 87) [] [.mp 1 0]],.pc M.aI],.agg [sI .i64 e,sI .i64 n,sI .i64 i,sI .i64 a],[.ac [.fn (acm 87) [] [.mp 1 0]],.pc M.aI]⟩
 (cV e n i a))
 (.test (s==3)
 (.call ⟨90,[sI .i64 3,sI .i64 (↑M.fns.length:Int),.fn (acm 93) [] [.mp 0 0,.mp 1 0]],[.ac [.fn (acm 87) [] [.mp 1 0]],.pc M.aI],.agg [sI .i64 e,sI .i64 n,sI .i64 i,sI .i64 a],[.ac [.fn (acm 87) [] [.mp 1 0]],.pc M.aI]⟩
 (cV e n i a))
 (.test (s==6)
 (.call ⟨90,[sI .i64 6,sI .i64 (↑M.gls.length:Int),.fn (acm 94) [] [.mp 0 0,.mp 1 0]],[.ac [.fn (acm 88) [] []],.pc M.aI],.agg [sI .i64 e,sI .i64 n,sI .i64 i,sI .i64 a],[.ac [.fn (acm 88) [] []],.pc M.aI]⟩
 (cV e n i a))
 (.test (s==7)
 (.call ⟨95,[.agg (ab6 AV.p M.aI)],[],.agg [sI .i64 e,sI .i64 n,sI .i64 i,sI .i64 a],[]⟩
 (cV e n i a))
 (.test (s==8)
 (.test (M.st)
 (.call ⟨90,[sI .i64 8,sI .i64 1,.fn (acm 96) [] [.mp 0 0]],[.pc M.aI],.agg [sI .i64 e,sI .i64 n,sI .i64 i,sI .i64 a],[.pc M.aI]⟩
 (cV e n i a))
 (.out (.ret (.agg [sI .i64 0,sI .i64 0,sI .i64 0,sI .i64 0]) [])))
 (.test (s==9)
 (.call ⟨90,[sI .i64 9,sI .i64 (↑M.els.length:Int),.fn (acm 97) [] [.mp 0 0,.mp 1 0]],[.pc M.aI,.ac [.fn (acm 88) [] []]],.agg [sI .i64 e,sI .i64 n,sI .i64 i,sI .i64 a],[.pc M.aI,.ac [.fn (acm 88) [] []]]⟩
 (cV e n i a))
 (.test (s==10)
 (.call ⟨90,[sI .i64 10,sI .i64 (↑M.fns.length:Int),.fn (acm 99) [] [.mp 0 0]],[.pc M.aI],.agg [sI .i64 e,sI .i64 n,sI .i64 i,sI .i64 a],[.pc M.aI]⟩
 (cV e n i a))
 (.test (s==11)
 (.call ⟨90,[sI .i64 11,sI .i64 (↑M.bk.length:Int),.fn (acm 100) [] [.mp 0 0,.mp 1 0]],[.pc M.aI,.ac [.fn (acm 88) [] []]],.agg [sI .i64 e,sI .i64 n,sI .i64 i,sI .i64 a],[.pc M.aI,.ac [.fn (acm 88) [] []]]⟩
 (cV e n i a))
 (.out (.ret (.agg [sI .i64 0,sI .i64 0,sI .i64 0,sI .i64 0]) []))))))))))
theorem iz (M:Mo) (s e n i a:Int):aG acb env (abv M s e n i a) 1000000 43 ([AV.agg (ab6 AV.p M.aI),sI sb s]) ([]) aew=ju M s e n i a:=by kernel_rfl
def abw:bH:=aT vlC aA [] [(40,0,0)] []
def aex:Sc:= .fin
def PC (M:Mo) (n:Nat):az:=
 (.test (decide ((↑n:Int)≥(↑M.fns.length:Int)))
 (.out (.ret (.au [sI .i64 6,sI .i64 0]) []))
 (.call ⟨8,[.agg (ab6 AV.p M.aI),sI .u32 (abY.wrap (sb.wrap ((↑M.aQ.length:Int)+(↑n:Int))))],[],.au [.agg [sI .i64 0,sI .i64 0],sB false],[]⟩
 (.out (.ret (.au [sI .i64 6,sI .i64 0]) []))))
theorem Ti (M:Mo) (n:Nat):aG acb env abw 1000000 40 ([AV.agg (ab6 AV.p M.aI),sI sb (↑n:Int)]) ([]) aex=PC M n:=by kernel_rfl
theorem an.ofS {f:FuncId} {args:List AV} {m m':Mem} {v:AV} (h:an acb W9 f args m v m'):an acb env f args m v m':=h.env fun _ _ q=>q
theorem an.toS {f:FuncId} {args:List AV} {m m':Mem} {v:AV} (h:an acb env f args m v m'):an acb W9 f args m v m':=h.env fun _ _ q=>q
theorem X0 {M:Mo} {x:Fu} (h:x∈M.fns):x.l∈qw M:=by simp only[qw,na,eh];exact .inl (.inl (.inl ⟨x,h,rfl⟩))
theorem X1 {M:Mo} {x:Gl} (h:x∈M.gls):x.l∈qw M:=by simp only[qw,na,eh];exact .inl (.inl (.inr ⟨x,h,rfl⟩))
theorem X2 {M:Mo} {x:El} (h:x∈M.els):x.l∈qw M:=by simp only[qw,na,eh];exact .inl (.inr ⟨x,h,rfl⟩)
theorem X3 {M:Mo} {x:Da} (h:x∈M.bk):x.l∈qw M:=by simp only[qw,na,eh];exact .inr ⟨x,h,rfl⟩
def mcF (ck:Int):Int:=if ck=141 then 141 else if ck=2 then 2 else 0
theorem PD {x:Ins} (h:tQ x=true):XX x=true:=by
 obtain⟨op,r,a,b,nn,tg,ll,le⟩:=x
 unfold tQ vk at h
 simp only[c8,Bool.not_eq_true',decide_eq_false_iff_not] at h
 obtain⟨_,h1,h2,_⟩:=h
 show decide (0≤r∧r≤1)=true
 rw[decide_eq_true_eq]
 omega
mutual
theorem PE {p q:Ins→Bool} (h : ∀x,p x=true→q x=true) : ∀x:Ins,QK p x=true→QK q x=true
 |.mk op r a b n tags l e,hx=>by
  simp only[QK,c8] at hx ⊢
  exact⟨h _ hx.1,sC h l hx.2.1,sC h e hx.2.2⟩
theorem sC {p q:Ins→Bool} (h : ∀x,p x=true→q x=true) : ∀l:List Ins,zR p l=true→zR q l=true
 |[],_=>rfl
 |x::r,hx=>by
  simp only[zR,c8] at hx ⊢
  exact⟨PE h x hx.1,sC h r hx.2⟩
end
theorem X4 {l:List Ins} (hw:F0 l) (h:mcF (ig tQ l)=0):Fit l 0 1:=by
 by_cases h1:zR tQ l=false
 · rw[show ig tQ l=2 by unfold ig;rw[if_pos h1]] at h
   exact absurd h (by decide)
 by_cases h2:262144<cN l∨16384<mL l∨900<gy 1 l
 · rw[show ig tQ l=141 by unfold ig;rw[if_neg h1,if_pos h2]] at h
   exact absurd h (by decide)
 · exact⟨sC (fun x=>PD) l (by simpa using h1),hw,by omega,by omega,by omega⟩
theorem qC {M:Mo} (h:M.Kc) {y:Ty} (hy:y∈M.tys):0≤y.p∧y.p≤255∧0≤y.r∧y.r≤1:=by
 have m:=h.rest
 simp only[pV,pf] at m
 have k:=afe.1 m.1.1.1.1.1.1.1 y hy
 unfold Gq Yr at k
 by_cases q:0≤y.p∧y.p≤255∧0≤y.r∧y.r≤1
 · exact q
 · rw[if_neg q] at k
   exact absurd rfl k
theorem X5 {M:Mo} (h:M.Kc) {x:Fu} (hx:x∈M.fns):0≤x.lo∧x.lo≤50000:=by
 have m:=h.rest
 simp only[pV,pf] at m
 have k:=afe.1 m.1.1.1.1.1.2 x hx
 unfold Em at k
 simp only[il,decide_eq_true_eq,not_or] at k
 omega
theorem X6 {M:Mo} (h:M.Kc) {x:Ex} (hx:x∈M.exs):0≤x.kind∧x.kind≤3:=by
 have m:=h.rest
 simp only[pV,pf] at m
 have k:=afe.1 m.1.2 x hx
 unfold En at k
 simp only[il,decide_eq_true_eq,not_or] at k
 omega
theorem Tj {M:Mo} (h:M.Kc) {l:List Ins} (hl:l∈qw M) (hw:F0 l):Fit l 0 1:=by
 have k1:=afe.1 h.yF l hl
 have k2:=afe.1 h.ED l hl
 refine X4 hw ?_
 unfold mcF
 rw[if_neg (by simpa using k1),if_neg (by simpa using k2)]
def lxM (M:Mo):Md:=⟨M.tys.length,M.tys.flatMap cP,M.aQ.length,M.aQ.flatMap bK,M.fns.length,M.fns.flatMap bG,M.fR.length,M.fR.flatMap bN,M.gA.length,M.gA.flatMap bN,M.gls.length,M.gls.flatMap dD,M.exs.length,M.exs.flatMap aS,M.st,M.sn,M.els.length,M.els.flatMap bA,M.bk.length,M.bk.flatMap bU⟩
def lX (M:Mo) (y:Ty) (lo:Int):Lx:=⟨lxM M,y.p,y.r,y.p+lo⟩
theorem GW {M:Mo} {a:Nat} {y:Ty} (h:sj M a=some y):y∈M.tys:=by
 unfold sj at h
 split at h
 · exact List.mem_of_getElem? h
 · cases h
theorem abx {M:Mo} (hM:M.fit) (hmay:M.Kc) {y:Ty} (hy:y∈M.tys) {lo:Int} (h0:0≤lo∧lo≤50000):TU (lX M y lo) (vM M y lo) where
 ret:=by
  have k:=qC hmay hy
  show y.r=((y.r.toNat:Nat):Int)
  omega
 abn:=by
  have k:=qC hmay hy
  show y.r.toNat≤1
  omega
 own:=by
  have k:=qC hmay hy
  show y.p+lo=(((y.p+lo).toNat:Nat):Int)
  omega
 aen:=by
  have k:=qC hmay hy
  show(y.p+lo).toNat≤1000000000
  omega
 ty a ha:=by
  have t:=yB M hM a ha
  have hv:(vM M y lo).ty (a:Int)=(sj M a).map fun z=>(z.p.toNat,z.r.toNat):=by
   show(sj M (a:Int).toNat).map _=_
   rw[acy]
  rw[hv]
  cases e:sj M a with
  |none=>
   rw[e] at t
   exact t
  |some z=>
   rw[e] at t
   have k:=qC hmay (GW e)
   have e1:((z.p.toNat:Nat):Int)=z.p:=by omega
   have e2:((z.r.toNat:Nat):Int)=z.r:=by omega
   show z.r.toNat≤1∧_
   refine⟨by omega,?_⟩
   rw[e1,e2]
   exact t
 ny:=by have:=hM.tys;show M.tys.length≤1000000000;omega
 ind a:=by
  by_cases ha:0<(lX M y lo).M.sL∧a<(lX M y lo).M.ny
  · rw[if_pos ha]
    have h1:0<M.fR.length:=ha.1
    have h2:a<M.tys.length:=ha.2
    have hx:M.tys[a]? = some M.tys[a]:=cb h2
    have k:=qC hmay (ed h2)
    have c:=bp (z:=2) (enc:=cP) (fun _=>rfl) hx
    have c0:(M.tys.flatMap cP).getD (a*2) .bw = .sc (.int .i64 M.tys[a].p):=c 0 (by decide)
    have c1:(M.tys.flatMap cP).getD (a*2+1) .bw = .sc (.int .i64 M.tys[a].r):=c 1 (by decide)
    refine⟨M.tys[a].p.toNat,M.tys[a].r.toNat,?_,by omega,?_,?_⟩
    · show(if 0<M.fR.length then(M.tys[(a:Int).toNat]?).map fun z=>(z.p.toNat,z.r.toNat) else none)=_
      rw[if_pos h1,acy,hx]
      rfl
    · rw[show((M.tys[a].p.toNat:Nat):Int)=M.tys[a].p by omega]
      exact c0
    · rw[show((M.tys[a].r.toNat:Nat):Int)=M.tys[a].r by omega]
      exact c1
  · rw[if_neg ha]
    show(if 0<M.fR.length then(M.tys[(a:Int).toNat]?).map fun z=>(z.p.toNat,z.r.toNat) else none)=none
    by_cases h1:0<M.fR.length
    · have h2 : ¬a<M.tys.length:=fun q=>ha ⟨h1,q⟩
      rw[if_pos h1,acy,List.getElem?_eq_none (by omega)]
      rfl
    · rw[if_neg h1]
 jN:=by show M.gls.length=(M.gls.map Gl.mu).length;rw[my]
 glM:=by have:=hM.gls;show(M.gls.map Gl.mu).length≤1000000000;rw[my];omega
 gl a b h:=by
  have h:(M.gls.map Gl.mu)[a]? = some b:=h
  rw[List.getElem?_map] at h
  cases e:M.gls[a]? with
  |none=>rw[e] at h;cases h
  |some x=>
   rw[e] at h
   cases h
   exact bp (z:=2) (enc:=dD) (fun _=>rfl) e 0 (by decide)
 me:=rfl
theorem Tk (M:Mo) (hM:M.fit) (hw:M.wf) (hmay:M.Kc) {n:Nat} (hn:n<M.fns.length):an acb env 40 [.agg (M.aI.map .p),sI .i64 n] [] (.au [sI .i64 (lookW M n).1,sI .i64 ((lookW M n).2:Nat)]) []:=by
 have h1:=hM.aQ
 have h2:=hM.fns
 have hx:M.fns[n]? = some M.fns[n]:=cb hn
 have hmem:=ed hn
 have c:=bp (z:=3) (enc:=bG) (fun _=>rfl) hx
 have t:=yB M hM (M.aQ.length+n) (by omega)
 unfold lookW
 rw[hx]
 dsimp only
 cases e:sj M (M.aQ.length+n) with
 |none=>
  rw[e] at t
  have w1:sb.wrap ((M.aQ.length:Int)+n)=((M.aQ.length+n:Nat):Int):=by rw[aN (by omega) (by omega)];omega
  have w2:abY.wrap ((M.aQ.length+n:Nat):Int)=((M.aQ.length+n:Nat):Int):=TL (by omega) (by omega)
  have g1:decide ((n:Int)≥(M.fns.length:Int))=false:=by simp;omega
  refine af aM (Ti M n) ?_
  simp only[PC,az.ok,w1,w2,g1,pb,false_implies,true_implies,true_and]
  first | exact⟨t,rfl⟩ | exact⟨t,trivial⟩
 |some y=>
  rw[e] at t
  have k:=qC hmay (GW e)
  have kf:=X5 hmay hmem
  exact KB (X:=lX M y M.fns[n].lo) (V:=vM M y M.fns[n].lo) (abx hM hmay (GW e) kf) (n:=n) (lo:=M.fns[n].lo) (l:=M.fns[n].l) hn (by show M.fns.length≤1000000000;omega) (by show M.aQ.length≤1000000000;omega) (c 1 (by decide)) (c 2 (by decide))
   ⟨by show 0≤y.p;omega,by show y.p≤1000000;omega⟩ ⟨by omega,by omega⟩ rfl t (Tj hmay (X0 hmem) (hw.fns.2 _ hmem).2.2.2)
theorem GX (M:Mo) {i:Nat} {x:Ex} (hx:M.exs[i]? = some x):iL M (M.exs.take (i+1)) []=nq (iL M (M.exs.take i) []) (lA M x.kind) x:=by
 rw[List.take_add_one,hx]
 simp[iL,List.foldl_append]
theorem C3 (M:Mo) (hM:M.fit) (hk : ∀x∈M.exs,0≤x.kind∧x.kind≤3):an acb env 95 [.agg (M.aI.map .p)] [] (wV (cj M 7)) []:=by
 obtain⟨L',k⟩:=Q3 (M:=M) (g:=123) (N:=M.exs.length) (by have:=hM.exs;omega) 7 (fun i=>(M.exs[i]?).elim 0 fun x=>kq (iL M (M.exs.take i) []) (lA M x.kind) x) (fun _=>0)
  (fun i=>iL M (M.exs.take i) []) (yC M) M.fR.length M.gA.length M.gls.length (fun i hi=>by
    have hx:=cb hi
    have hr:=hk _ (ed hi)
    simp only[GX M hx]
    rw[hx]
    show an acb env 123 _ _ (.au [sI .i64 (kq _ (lA M M.exs[i].kind) M.exs[i]),sI .i64 0]) _
    have h4:M.exs[i].kind=0∨M.exs[i].kind=1∨M.exs[i].kind=2∨M.exs[i].kind=3:=by omega
    rcases h4 with q | q | q | q
    · rw[show lA M M.exs[i].kind=yC M by rw[q];rfl]
      exact OA M _ _ _ _ _ hx q
    · rw[show lA M M.exs[i].kind=M.fR.length by rw[q];rfl]
      exact OB M _ _ _ _ _ hx q
    · rw[show lA M M.exs[i].kind=M.gA.length by rw[q];rfl]
      exact OC M _ _ _ _ _ hx q
    · rw[show lA M M.exs[i].kind=M.gls.length by rw[q];rfl]
      exact OD M _ _ _ _ _ hx q)
 rw[mU] at k
 refine an.ofS (af aM (Sr M L' (cj M 7).1 (cj M 7).2.1 (cj M 7).2.2.1 (cj M 7).2.2.2) ?_)
 exact⟨an.toS k,rfl⟩
section
variable (M:Mo) (hM:M.fit) (hw:M.wf) (hs:M.vn) (hmay:M.Kc) (hel : ∀x∈M.els,x.fs.length≤1000000000)
include hM hw hs hmay hel
theorem GY:an acb env 43 [.agg (M.aI.map .p),sI .i64 ((2:Nat):Int)] [] (wV (cj M 2)) []:=by
 have k:=JN M (by have:=hM.aQ;omega)
 rw[mU] at k
 refine af aM (iz M ((2:Nat):Int) (cj M 2).1 (cj M 2).2.1 (cj M 2).2.2.1 (cj M 2).2.2.2) ?_
 simp only[ju,cV,az.ok,show(((2:Nat):Int)==2)=true from rfl,pb,ae5,false_implies,true_implies,true_and,and_true]
 first | exact⟨k,rfl⟩ | exact⟨k,trivial⟩
theorem GZ:an acb env 43 [.agg (M.aI.map .p),sI .i64 ((3:Nat):Int)] [] (wV (cj M 3)) []:=by
 have k:=JO M (by have:=hM.fns;omega)
 rw[mU] at k
 refine af aM (iz M ((3:Nat):Int) (cj M 3).1 (cj M 3).2.1 (cj M 3).2.2.1 (cj M 3).2.2.2) ?_
 simp only[ju,cV,az.ok,show(((3:Nat):Int)==2)=false from rfl,show(((3:Nat):Int)==3)=true from rfl,pb,ae5,false_implies,true_implies,true_and,and_true]
 first | exact⟨k,rfl⟩ | exact⟨k,trivial⟩
theorem G0:an acb env 43 [.agg (M.aI.map .p),sI .i64 ((4:Nat):Int)] [] (wV (cj M 4)) []:=by
 refine af aM (iz M ((4:Nat):Int) (cj M 4).1 (cj M 4).2.1 (cj M 4).2.2.1 (cj M 4).2.2.2) ?_
 simp only[ju,cV,az.ok,show(((4:Nat):Int)==2)=false from rfl,show(((4:Nat):Int)==3)=false from rfl,show(((4:Nat):Int)==6)=false from rfl,show(((4:Nat):Int)==7)=false from rfl,show(((4:Nat):Int)==8)=false from rfl,show(((4:Nat):Int)==9)=false from rfl,show(((4:Nat):Int)==10)=false from rfl,show(((4:Nat):Int)==11)=false from rfl,pb,ae5,false_implies,true_implies,true_and,and_true]
 rfl
theorem G1:an acb env 43 [.agg (M.aI.map .p),sI .i64 ((5:Nat):Int)] [] (wV (cj M 5)) []:=by
 refine af aM (iz M ((5:Nat):Int) (cj M 5).1 (cj M 5).2.1 (cj M 5).2.2.1 (cj M 5).2.2.2) ?_
 simp only[ju,cV,az.ok,show(((5:Nat):Int)==2)=false from rfl,show(((5:Nat):Int)==3)=false from rfl,show(((5:Nat):Int)==6)=false from rfl,show(((5:Nat):Int)==7)=false from rfl,show(((5:Nat):Int)==8)=false from rfl,show(((5:Nat):Int)==9)=false from rfl,show(((5:Nat):Int)==10)=false from rfl,show(((5:Nat):Int)==11)=false from rfl,pb,ae5,false_implies,true_implies,true_and,and_true]
 rfl
theorem G2:an acb env 43 [.agg (M.aI.map .p),sI .i64 ((6:Nat):Int)] [] (wV (cj M 6)) []:=by
 have k:=Q2 (M:=M) (g:=94) (N:=M.gls.length) (by have:=hM.gls;omega) 6 (fun i=>(M.gls[i]?).elim 0 fun x=>P4 x.l) (fun _=>0) fun i hi=>by
  rw[cb hi]
  exact RS M hi (hs _ (X1 (ed hi)))
 rw[mU] at k
 refine af aM (iz M ((6:Nat):Int) (cj M 6).1 (cj M 6).2.1 (cj M 6).2.2.1 (cj M 6).2.2.2) ?_
 simp only[ju,cV,az.ok,show(((6:Nat):Int)==2)=false from rfl,show(((6:Nat):Int)==3)=false from rfl,show(((6:Nat):Int)==6)=true from rfl,pb,ae5,false_implies,true_implies,true_and,and_true]
 first | exact⟨k,rfl⟩ | exact⟨k,trivial⟩
theorem G3:an acb env 43 [.agg (M.aI.map .p),sI .i64 ((7:Nat):Int)] [] (wV (cj M 7)) []:=by
 have k:=C3 M hM (fun x hx=>X6 hmay hx)
 refine af aM (iz M ((7:Nat):Int) (cj M 7).1 (cj M 7).2.1 (cj M 7).2.2.1 (cj M 7).2.2.2) ?_
 simp only[ju,cV,az.ok,show(((7:Nat):Int)==2)=false from rfl,show(((7:Nat):Int)==3)=false from rfl,show(((7:Nat):Int)==6)=false from rfl,show(((7:Nat):Int)==7)=true from rfl,pb,ae5,false_implies,true_implies,true_and,and_true]
 first | exact⟨k,rfl⟩ | exact⟨k,trivial⟩
theorem G4:an acb env 43 [.agg (M.aI.map .p),sI .i64 ((8:Nat):Int)] [] (wV (cj M 8)) []:=by
 have b:abY.min≤M.sn∧M.sn≤abY.max:=by simpa[Lit.wf] using hw.sn
 have b0:0≤M.sn:=b.1
 have b1:M.sn≤4294967295:=b.2
 by_cases hst:M.st=true
 · have k:=HQ (M:=M) (g:=96) (N:=1) (by omega) 8 (fun _=>Ot M) (fun _=>0) (fun i hi=>Sp M hM ⟨b0,by omega⟩ i)
   rw[mU] at k
   have e:cj M 8=nr 8 (fun _=>Ot M) (fun _=>0) 1 0:=by
    show(if M.st=true then nr 8 (fun _=>Ot M) (fun _=>0) 1 0 else(0,0,0,0))=_
    rw[if_pos hst]
   rw[←e] at k
   refine af aM (iz M ((8:Nat):Int) (cj M 8).1 (cj M 8).2.1 (cj M 8).2.2.1 (cj M 8).2.2.2) ?_
   simp only[ju,cV,az.ok,hst,show(((8:Nat):Int)==2)=false from rfl,show(((8:Nat):Int)==3)=false from rfl,show(((8:Nat):Int)==6)=false from rfl,show(((8:Nat):Int)==7)=false from rfl,show(((8:Nat):Int)==8)=true from rfl,pb,ae5,false_implies,true_implies,true_and,and_true]
   first | exact⟨k,rfl⟩ | exact⟨k,trivial⟩
 · have e:cj M 8=(0,0,0,0):=by
    show(if M.st=true then nr 8 (fun _=>Ot M) (fun _=>0) 1 0 else(0,0,0,0))=_
    rw[if_neg hst]
   have hst:M.st=false:=by simpa using hst
   rw[e]
   refine af aM (iz M ((8:Nat):Int) 0 0 0 0) ?_
   simp only[ju,cV,az.ok,hst,show(((8:Nat):Int)==2)=false from rfl,show(((8:Nat):Int)==3)=false from rfl,show(((8:Nat):Int)==6)=false from rfl,show(((8:Nat):Int)==7)=false from rfl,show(((8:Nat):Int)==8)=true from rfl,pb,ae5,false_implies,true_implies,true_and,and_true]
   first | rfl | trivial
theorem G5:an acb env 43 [.agg (M.aI.map .p),sI .i64 ((9:Nat):Int)] [] (wV (cj M 9)) []:=by
 have k:=HR (M:=M) (g:=97) (N:=M.els.length) (by have:=hM.els;omega) 9 (fun i=>(M.els[i]?).elim 0 fun x=>TQ M x) (fun _=>0) fun i hi=>by
  rw[cb hi]
  exact So M hi (hel _ (ed hi)) (hs _ (X2 (ed hi)))
 rw[mU] at k
 refine af aM (iz M ((9:Nat):Int) (cj M 9).1 (cj M 9).2.1 (cj M 9).2.2.1 (cj M 9).2.2.2) ?_
 simp only[ju,cV,az.ok,show(((9:Nat):Int)==2)=false from rfl,show(((9:Nat):Int)==3)=false from rfl,show(((9:Nat):Int)==6)=false from rfl,show(((9:Nat):Int)==7)=false from rfl,show(((9:Nat):Int)==8)=false from rfl,show(((9:Nat):Int)==9)=true from rfl,pb,ae5,false_implies,true_implies,true_and,and_true]
 first | exact⟨k,rfl⟩ | exact⟨k,trivial⟩
theorem E9:an acb env 43 [.agg (M.aI.map .p),sI .i64 ((10:Nat):Int)] [] (wV (cj M 10)) []:=by
 have k:=HQ (M:=M) (g:=99) (N:=M.fns.length) (by have:=hM.fns;omega) 10 (fun i=>(lookW M i).1) (fun i=>((lookW M i).2:Nat)) fun i hi=>af aM (RQ M i 0 0 (lookW M i).1 ((lookW M i).2:Nat) false) ⟨Tk M hM hw hmay hi,rfl⟩
 rw[mU] at k
 refine af aM (iz M ((10:Nat):Int) (cj M 10).1 (cj M 10).2.1 (cj M 10).2.2.1 (cj M 10).2.2.2) ?_
 simp only[ju,cV,az.ok,show(((10:Nat):Int)==2)=false from rfl,show(((10:Nat):Int)==3)=false from rfl,show(((10:Nat):Int)==6)=false from rfl,show(((10:Nat):Int)==7)=false from rfl,show(((10:Nat):Int)==8)=false from rfl,show(((10:Nat):Int)==9)=false from rfl,show(((10:Nat):Int)==10)=true from rfl,pb,ae5,false_implies,true_implies,true_and,and_true]
 first | exact⟨k,rfl⟩ | exact⟨k,trivial⟩
theorem Fa:an acb env 43 [.agg (M.aI.map .p),sI .i64 ((11:Nat):Int)] [] (wV (cj M 11)) []:=by
 have k:=HR (M:=M) (g:=100) (N:=M.bk.length) (by have:=hM.bk;omega) 11 (fun i=>(M.bk[i]?).elim 0 fun x=>if M.gA.length=0 then 6 else P4 x.l) (fun _=>0) fun i hi=>by
  rw[cb hi]
  exact RT M hi (hs _ (X3 (ed hi)))
 rw[mU] at k
 refine af aM (iz M ((11:Nat):Int) (cj M 11).1 (cj M 11).2.1 (cj M 11).2.2.1 (cj M 11).2.2.2) ?_
 simp only[ju,cV,az.ok,show(((11:Nat):Int)==2)=false from rfl,show(((11:Nat):Int)==3)=false from rfl,show(((11:Nat):Int)==6)=false from rfl,show(((11:Nat):Int)==7)=false from rfl,show(((11:Nat):Int)==8)=false from rfl,show(((11:Nat):Int)==9)=false from rfl,show(((11:Nat):Int)==10)=false from rfl,show(((11:Nat):Int)==11)=true from rfl,pb,ae5,false_implies,true_implies,true_and,and_true]
 first | exact⟨k,rfl⟩ | exact⟨k,trivial⟩
end
theorem uZ (M:Mo) (hM:M.fit) (hw:M.wf) (hs:M.vn) (hel : ∀x∈M.els,x.fs.length≤1000000000):an acb env 20 [.agg (M.aI.map .p)] [] (wV (ng M (cj M))) []:=
 Kb M (Eu M hM hw hs) (cj M) fun z d h1 h2=>by
  have hmay:=(CM M).1 z
  have hd:d=2∨d=3∨d=4∨d=5∨d=6∨d=7∨d=8∨d=9∨d=10∨d=11:=by omega
  rcases hd with rfl | rfl | rfl | rfl | rfl | rfl | rfl | rfl | rfl | rfl
  · exact GY M hM hw hs hmay hel
  · exact GZ M hM hw hs hmay hel
  · exact G0 M hM hw hs hmay hel
  · exact G1 M hM hw hs hmay hel
  · exact G2 M hM hw hs hmay hel
  · exact G3 M hM hw hs hmay hel
  · exact G4 M hM hw hs hmay hel
  · exact G5 M hM hw hs hmay hel
  · exact E9 M hM hw hs hmay hel
  · exact Fa M hM hw hs hmay hel
end Go.Proofs.YtdmmllcjgjmbbaaGreatDoor.N
end
section
namespace Go.Proofs.YtdmmllcjgjmbbaaGreatDoor.N
open Go Go.Am
def kE:Env where
 dg:=uJ tabs
 wr:=wrs
 keep _ _:=none
def KC:bQ:=⟨182,[.p (.sc (.string ⟨#[101,113,122,32,101,113,32,110,101,32,108,116,95,115,32,108,116,95,117,32,103,116,95,115,32,103,116,95,117,32,108,101,95,115,32,108,101,95,117,32,103,101,95,115,32,103,101,95,117]⟩))],[],.p (.ps 11 1 [.sc (.string ⟨#[101,113,122]⟩),.sc (.string ⟨#[101,113]⟩),.sc (.string ⟨#[110,101]⟩),.sc (.string ⟨#[108,116,95,115]⟩),.sc (.string ⟨#[108,116,95,117]⟩),.sc (.string ⟨#[103,116,95,115]⟩),.sc (.string ⟨#[103,116,95,117]⟩),.sc (.string ⟨#[108,101,95,115]⟩),.sc (.string ⟨#[108,101,95,117]⟩),.sc (.string ⟨#[103,101,95,115]⟩),.sc (.string ⟨#[103,101,95,117]⟩)]),[]⟩
theorem aey:an acb kE KC.g KC.args KC.m KC.v KC.m':=bT aM (K:=[]) fq (n:=10000000) (by kernel_rfl)
def X7:List bQ:=KC::[]
theorem PF:dY acb kE X7:=cU aey fq
def KD:bQ:=⟨182,[.p (.sc (.string ⟨#[99,108,122,32,99,116,122,32,112,111,112,99,110,116,32,97,100,100,32,115,117,98,32,109,117,108,32,100,105,118,95,115,32,100,105,118,95,117,32,114,101,109,95,115,32,114,101,109,95,117,32,97,110,100,32,111,114,32,120,111,114,32,115,104,108,32,115,104,114,95,115,32,115,104,114,95,117,32,114,111,116,108,32,114,111,116,114]⟩))],[],.p (.ps 18 1 [.sc (.string ⟨#[99,108,122]⟩),.sc (.string ⟨#[99,116,122]⟩),.sc (.string ⟨#[112,111,112,99,110,116]⟩),.sc (.string ⟨#[97,100,100]⟩),.sc (.string ⟨#[115,117,98]⟩),.sc (.string ⟨#[109,117,108]⟩),.sc (.string ⟨#[100,105,118,95,115]⟩),.sc (.string ⟨#[100,105,118,95,117]⟩),.sc (.string ⟨#[114,101,109,95,115]⟩),.sc (.string ⟨#[114,101,109,95,117]⟩),.sc (.string ⟨#[97,110,100]⟩),.sc (.string ⟨#[111,114]⟩),.sc (.string ⟨#[120,111,114]⟩),.sc (.string ⟨#[115,104,108]⟩),.sc (.string ⟨#[115,104,114,95,115]⟩),.sc (.string ⟨#[115,104,114,95,117]⟩),.sc (.string ⟨#[114,111,116,108]⟩),.sc (.string ⟨#[114,111,116,114]⟩)]),[]⟩
theorem aez:an acb kE KD.g KD.args KD.m KD.v KD.m':=bT aM (K:=X7) PF (n:=10000000) (by kernel_rfl)
def X8:List bQ:=KD::X7
theorem PG:dY acb kE X8:=cU aez PF
def KE:bQ:=⟨106,[.p (.ps 1 8 [.sc (.int .i64 32),.sc (.int .i64 0),.sc (.int .u32 0),.sc (.int .u32 0),.sc (.int .i32 0),.ps 0 0 [],.ps 0 0 [],.ps 0 0 []])],[],.p (.sc (.int .i64 0)),[]⟩
theorem aeA:an acb kE KE.g KE.args KE.m KE.v KE.m':=bT aM (K:=X8) PG (n:=10000000) (by kernel_rfl)
def X9:List bQ:=KE::X8
theorem PI:dY acb kE X9:=cU aeA PG
def KF:bQ:=⟨12,[.agg [.os none 1 2 [.sc (.int .i64 1),.sc (.int .i64 1)],.os none 0 0 [],.os none 1 3 [.sc (.int .i64 0),.sc (.int .i64 0),.ps 1 8 [.sc (.int .i64 32),.sc (.int .i64 0),.sc (.int .u32 0),.sc (.int .u32 0),.sc (.int .i32 0),.ps 0 0 [],.ps 0 0 [],.ps 0 0 []]],.os none 0 0 [],.os none 0 0 [],.os none 0 0 [],.os none 0 0 [],.p (.sc (.bool false)),.p (.sc (.int .u32 0)),.os none 0 0 [],.os none 0 0 []]],[],.p (.sc (.int .i64 0)),[]⟩
theorem aeB:an acb kE KF.g KF.args KF.m KF.v KF.m':=bT aM (K:=X9) PI (n:=10000000) (by kernel_rfl)
def Ya:List bQ:=KF::X9
theorem PJ:dY acb kE Ya:=cU aeB PI
def KG:bQ:=⟨40,[.agg [.os none 1 2 [.sc (.int .i64 1),.sc (.int .i64 1)],.os none 0 0 [],.os none 1 3 [.sc (.int .i64 0),.sc (.int .i64 0),.ps 1 8 [.sc (.int .i64 32),.sc (.int .i64 0),.sc (.int .u32 0),.sc (.int .u32 0),.sc (.int .i32 0),.ps 0 0 [],.ps 0 0 [],.ps 0 0 []]],.os none 0 0 [],.os none 0 0 [],.os none 0 0 [],.os none 0 0 [],.p (.sc (.bool false)),.p (.sc (.int .u32 0)),.os none 0 0 [],.os none 0 0 []],.p (.sc (.int .i64 0))],[],.au [.p (.sc (.int .i64 0)),.p (.sc (.int .i64 0))],[]⟩
theorem aeC:an acb kE KG.g KG.args KG.m KG.v KG.m':=bT aM (K:=Ya) PJ (n:=10000000) (by kernel_rfl)
def Yb:List bQ:=KG::Ya
theorem PK:dY acb kE Yb:=cU aeC PJ
def KH:bQ:=⟨106,[.p (.ps 1 8 [.sc (.int .i64 32),.sc (.int .i64 0),.sc (.int .u32 1),.sc (.int .u32 0),.sc (.int .i32 0),.ps 0 0 [],.ps 0 0 [],.ps 0 0 []])],[],.p (.sc (.int .i64 0)),[]⟩
theorem aeD:an acb kE KH.g KH.args KH.m KH.v KH.m':=bT aM (K:=Yb) PK (n:=10000000) (by kernel_rfl)
def Yc:List bQ:=KH::Yb
theorem PL:dY acb kE Yc:=cU aeD PK
def KI:bQ:=⟨12,[.agg [.os none 1 2 [.sc (.int .i64 1),.sc (.int .i64 1)],.os none 0 0 [],.os none 1 3 [.sc (.int .i64 0),.sc (.int .i64 0),.ps 1 8 [.sc (.int .i64 32),.sc (.int .i64 0),.sc (.int .u32 1),.sc (.int .u32 0),.sc (.int .i32 0),.ps 0 0 [],.ps 0 0 [],.ps 0 0 []]],.os none 0 0 [],.os none 0 0 [],.os none 0 0 [],.os none 0 0 [],.p (.sc (.bool false)),.p (.sc (.int .u32 0)),.os none 0 0 [],.os none 0 0 []]],[],.p (.sc (.int .i64 0)),[]⟩
theorem aeE:an acb kE KI.g KI.args KI.m KI.v KI.m':=bT aM (K:=Yc) PL (n:=10000000) (by kernel_rfl)
def Yd:List bQ:=KI::Yc
theorem PM:dY acb kE Yd:=cU aeE PL
def KJ:bQ:=⟨12,[.agg [.os none 1 2 [.sc (.int .i64 1),.sc (.int .i64 1)],.os none 0 0 [],.os none 1 3 [.sc (.int .i64 0),.sc (.int .i64 0),.ps 0 0 []],.os none 0 0 [],.os none 0 0 [],.os none 0 0 [],.os none 0 0 [],.p (.sc (.bool false)),.p (.sc (.int .u32 0)),.os none 0 0 [],.os none 0 0 []]],[],.p (.sc (.int .i64 0)),[]⟩
theorem aeF:an acb kE KJ.g KJ.args KJ.m KJ.v KJ.m':=bT aM (K:=Yd) PM (n:=10000000) (by kernel_rfl)
def Ye:List bQ:=KJ::Yd
theorem PN:dY acb kE Ye:=cU aeF PM
def KK:bQ:=⟨106,[.p (.ps 1 8 [.sc (.int .i64 65),.sc (.int .i64 0),.sc (.int .u32 0),.sc (.int .u32 0),.sc (.int .i32 0),.ps 0 0 [],.ps 0 0 [],.ps 0 0 []])],[],.p (.sc (.int .i64 0)),[]⟩
theorem aeG:an acb kE KK.g KK.args KK.m KK.v KK.m':=bT aM (K:=Ye) PN (n:=10000000) (by kernel_rfl)
def Yf:List bQ:=KK::Ye
theorem PO:dY acb kE Yf:=cU aeG PN
def KL:bQ:=⟨29,[.agg [.os none 2 2 [.sc (.int .i64 1),.sc (.int .i64 1),.sc (.int .i64 0),.sc (.int .i64 0)],.os none 1 3 [.sc (.string ⟨#[104,111,115,116]⟩),.sc (.string ⟨#[102]⟩),.sc (.int .i64 0)],.os none 1 3 [.sc (.int .i64 1),.sc (.int .i64 0),.ps 0 0 []],.os none 1 3 [.sc (.int .u32 1),.sc (.int .u32 0),.sc (.bool false)],.os none 1 3 [.sc (.int .u32 1),.sc (.int .u32 0),.sc (.bool false)],.os none 2 2 [.sc (.bool true),.ps 1 8 [.sc (.int .i64 65),.sc (.int .i64 0),.sc (.int .u32 0),.sc (.int .u32 0),.sc (.int .i32 0),.ps 0 0 [],.ps 0 0 [],.ps 0 0 []],.sc (.bool false),.ps 1 8 [.sc (.int .i64 65),.sc (.int .i64 0),.sc (.int .u32 0),.sc (.int .u32 0),.sc (.int .i32 0),.ps 0 0 [],.ps 0 0 [],.ps 0 0 []]],.os none 0 0 [],.p (.sc (.bool false)),.p (.sc (.int .u32 0)),.os none 0 0 [],.os none 0 0 []]],[],.p (.sc (.int .i64 0)),[]⟩
theorem aeH:an acb kE KL.g KL.args KL.m KL.v KL.m':=bT aM (K:=Yf) PO (n:=10000000) (by kernel_rfl)
def PR:List bQ:=KL::Yf
theorem Jb:dY acb kE PR:=cU aeH PO
def Bw:bQ:=⟨20,[.agg [.os none 2 2 [.sc (.int .i64 1),.sc (.int .i64 1),.sc (.int .i64 0),.sc (.int .i64 0)],.os none 1 3 [.sc (.string ⟨#[104,111,115,116]⟩),.sc (.string ⟨#[102]⟩),.sc (.int .i64 0)],.os none 1 3 [.sc (.int .i64 1),.sc (.int .i64 0),.ps 0 0 []],.os none 1 3 [.sc (.int .u32 1),.sc (.int .u32 0),.sc (.bool false)],.os none 1 3 [.sc (.int .u32 1),.sc (.int .u32 0),.sc (.bool false)],.os none 2 2 [.sc (.bool true),.ps 1 8 [.sc (.int .i64 65),.sc (.int .i64 0),.sc (.int .u32 0),.sc (.int .u32 0),.sc (.int .i32 0),.ps 0 0 [],.ps 0 0 [],.ps 0 0 []],.sc (.bool false),.ps 1 8 [.sc (.int .i64 65),.sc (.int .i64 0),.sc (.int .u32 0),.sc (.int .u32 0),.sc (.int .i32 0),.ps 0 0 [],.ps 0 0 [],.ps 0 0 []]],.os none 0 0 [],.p (.sc (.bool false)),.p (.sc (.int .u32 0)),.os none 0 0 [],.os none 0 0 []]],[],.agg [.p (.sc (.int .i64 0)),.p (.sc (.int .i64 0)),.p (.sc (.int .i64 0)),.p (.sc (.int .i64 0))],[]⟩
theorem aby:an acb kE Bw.g Bw.args Bw.m Bw.v Bw.m':=bT aM (K:=PR) Jb (n:=10000000) (by kernel_rfl)
def TV:List bQ:=Bw::PR
theorem Tl:dY acb kE TV:=cU aby Jb
theorem Yg:an acb kE 22 [] [] (.p (.sc (.bool true))) []:=bT aM (K:=TV) Tl (n:=10000000) (by kernel_rfl)
end Go.Proofs.YtdmmllcjgjmbbaaGreatDoor.N
end
